/- types' reader: choices; a symbolic walk. -/
-- TYPESA
import Derived.Test.YtdcplkefmpjppaaDoorDT8
set_option linter.unusedVariables false
set_option linter.unusedSimpArgs false
namespace Go.Proofs.YtdcplkefmpjppaaDoor.GG
open Go.RowKit Go.Sw
open Nat renaming reduceAdd → zn2
open Go.Sw renaming swp_seq → zw0, swp_block → zw1, swp_skip → zw2, swp_ret → zw3, swp_exit → zw4, swp_label → zw5, kseq_n → zw6, kseq_x → zw7, kseq_r → zw8, kblk_n → zw9, kblk_r → zw10, kblk_xs → zw11, kblk_xn → zw12, kloop_x → zw13, kloop_r → zw14, swp_cond → zw15

def badL (L : List ByteArray) (w : ByteArray) : Bool:=if isNameB w = true then (if (match L.getLast? with | some q=>leB w q | none=>false) = true then true else decide (L.length = 6)) else true
inductive CLoop (Γ : Gl) (s : ByteArray) (kd : Int) : List ByteArray → List Tp → Nat → Rt → Prop
 | bad (L : List ByteArray) (K : List Tp) (a : Nat) (h : badL L (wOf s a) = true) : CLoop Γ s kd L K a (.no (wAt s a))
 | colon (L : List ByteArray) (K : List Tp) (a : Nat) (h : badL L (wOf s a) = false) (hc : isB s (wAt s a + (wOf s a).size) 58 = false) : CLoop Γ s kd L K a (.no (wAt s (wAt s a + (wOf s a).size)))
 | one (L : List ByteArray) (K : List Tp) (a : Nat) (h : badL L (wOf s a) = false) (hc : isB s (wAt s a + (wOf s a).size) 58 = true) (b : Nat) (hr : RdT Γ s 122 [] (wAt s (wAt s a + (wOf s a).size) + 1) (.no b)) : CLoop Γ s kd L K a (.no b)
 | done (L : List ByteArray) (K : List Tp) (a : Nat) (h : badL L (wOf s a) = false) (hc : isB s (wAt s a + (wOf s a).size) 58 = true) (x : Tp) (b : Nat) (hb : a ≤ b) (hb2 : b ≤ s.size) (hr : RdT Γ s 122 [] (wAt s (wAt s a + (wOf s a).size) + 1) (.ok x b)) (he : isB s b 125 = true) : CLoop Γ s kd L K a (.ok (.mk kd 0 noB (L ++ [wOf s a]) (K ++ [x])) (wAt s b + 1))
 | comma (L : List ByteArray) (K : List Tp) (a : Nat) (h : badL L (wOf s a) = false) (hc : isB s (wAt s a + (wOf s a).size) 58 = true) (x : Tp) (b : Nat) (hb : a ≤ b) (hb2 : b ≤ s.size) (hr : RdT Γ s 122 [] (wAt s (wAt s a + (wOf s a).size) + 1) (.ok x b)) (he : isB s b 125 = false) (hk : isB s b 44 = false) : CLoop Γ s kd L K a (.no (wAt s b))
 | more (L : List ByteArray) (K : List Tp) (a : Nat) (h : badL L (wOf s a) = false) (hc : isB s (wAt s a + (wOf s a).size) 58 = true) (x : Tp) (b : Nat) (hb : a ≤ b) (hb2 : b ≤ s.size) (hr : RdT Γ s 122 [] (wAt s (wAt s a + (wOf s a).size) + 1) (.ok x b)) (he : isB s b 125 = false) (hk : isB s b 44 = true) (R : Rt) (ht : CLoop Γ s kd (L ++ [wOf s a]) (K ++ [x]) (wAt s b + 1) R) : CLoop Γ s kd L K a R
theorem ds_app : ∀ (K : List Tp) (x : Tp),Tp.ds (K ++ [x]) = Tp.ds K ++ [x.d]
 | [],x=>by simp [Tp.ds]
 | y :: K,x=>by simp [Tp.ds,ds_app K x]
theorem last_at {L : List ByteArray} {q : ByteArray} (h : L.getLast? = some q) : 0 < L.length ∧ (L.map sD).getD (L.length - 1) default = sD q:=by
 rw [List.getLast?_eq_getElem?] at h
 obtain ⟨h1,h2⟩:=List.getElem?_eq_some_iff.1 h
 refine ⟨by omega,?_⟩
 simp only [List.getD,List.getElem?_map,h,Option.map_some,Option.getD_some]
theorem bad_cases {L : List ByteArray} {w : ByteArray} {B : Bool} (h : badL L w = B) : (isNameB w = false ∧ B = true ∧ (L = [] ∨ ∃ q,0 < L.length ∧ (L.map sD).getD (L.length - 1) default = sD q)) ∨ (isNameB w = true ∧ L = [] ∧ B = false) ∨
 (isNameB w = true ∧ ∃ q,0 < L.length ∧ (L.map sD).getD (L.length - 1) default = sD q ∧ ((leB w q = true ∧ B = true) ∨ (leB w q = false ∧ B = decide (L.length = 6)))):=by
 unfold badL at h
 cases hn : isNameB w with
 | false =>
  rw [hn,if_neg (by decide)] at h
  refine .inl ⟨rfl,h.symm,?_⟩
  cases hl : L.getLast? with
  | none=>exact .inl (by simpa using hl)
  | some q=>exact .inr ⟨q,last_at hl⟩
 | true =>
  rw [hn,if_pos rfl] at h
  cases hl : L.getLast? with
  | none =>
   have : L = []:=by simpa using hl
   subst this
   refine .inr (.inl ⟨rfl,rfl,?_⟩)
   rw [← h];rfl
  | some q =>
   obtain ⟨h1,h2⟩:=last_at hl
   rw [hl] at h
   refine .inr (.inr ⟨rfl,q,h1,h2,?_⟩)
   cases hq : leB w q with
   | true =>
    simp only [hq,if_true] at h
    exact .inl ⟨rfl,h.symm⟩
   | false =>
    simp only [hq,Bool.false_eq_true,if_false] at h
    exact .inr ⟨rfl,h.symm⟩
theorem D_default : (default : D) = .v (.bool false):=rfl
abbrev zeroT : List SV:=[.d (iD 0),.d (iD 0),.d (sD ⟨#[]⟩),.nil,.nil]
set_option maxHeartbeats 16000000 in
set_option maxRecDepth 100000 in
theorem choice_open (Γ : Gl) (s : ByteArray) (hs : s.size ≤ 2000) (kd : Int) (a0 : Nat) (ha0 : a0 < s.size) (hq : isB s (a0 + 1) 123 = false) : RdT Γ s 138 [.d (iD kd)] a0 (.no (wAt s (a0 + 1))):=by
 have hwa : IntKind.i64.wrap ((a0 : Int) + 1) = ((a0 + 1 : Nat) : Int):=by rw [wrap_in (by omega) (by omega)];omega
 have hi:=sign_x Γ s hs (a0 + 1) (by omega) 123 123 rfl hq
 unfold RdT
 generalize wAt s (a0 + 1) = q at *
 unfold rBox at hi ⊢
 refine xfn_of_swp (N:=85) Tryd.func138 rfl (by decide) rfl (by simp) (fun C h0=>?_)
 simp only [argS]
 repeat' (first|(with_reducible first|apply zw0|apply zw1|apply zw2|apply zw3|apply zw4|apply zw5|apply zw6|apply zw7|apply zw8|apply zw9|apply zw10|apply zw11|apply zw13|apply zw14)|((with_reducible refine zw12 ?_ ?_);rfl)|((with_reducible refine swp_regionX ?_ ?_ (fun K' hK' hP'=>?_));rfl;rfl;simp only [WA,simprocAttr,hwa];(repeat (constructor;focus (clear hK' hP';intros;simp_all;done)));(try (apply hK';clear hK' hP';clear K')))|((with_reducible refine zw15 ?_ ?_);rfl;refine ⟨_,rfl,fun h=>?_,fun h=>?_⟩ <;> try exact absurd h (by decide)))
 refine stop_cX rfl (by simp only [UA,WA,simprocAttr]) (hi) ?_
 simp only [UM,WA,simprocAttr]
 refine hP' _ _ _ ?_
 repeat (first | refine kseq_p ?_ | refine kblk_p ?_ | refine kloop_p ?_)
 simp only [KpanS,US,WA,simprocAttr,h0]
set_option maxHeartbeats 16000000 in
set_option maxRecDepth 100000 in
theorem choice_ok (Γ : Gl) (s : ByteArray) (hs : s.size ≤ 2000) (kd : Int) (a0 : Nat) (ha0 : a0 < s.size) (hq : isB s (a0 + 1) 123 = true) (z : Tp) (e : Nat) (hp0 : CLoop Γ s kd [] [] (wAt s (a0 + 1) + 1) (.ok z e)) : RdT Γ s 138 [.d (iD kd)] a0 (.ok z e):=by
 have hwa : IntKind.i64.wrap ((a0 : Int) + 1) = ((a0 + 1 : Nat) : Int):=by rw [wrap_in (by omega) (by omega)];omega
 have hi:=sign_l Γ s hs (a0 + 1) (by omega) 123 123 rfl hq
 unfold RdT
 unfold rBox at hi ⊢
 refine sfn_of_swp (N:=85) Tryd.func138 rfl (by decide) rfl rfl (by simp) (fun C h0=>?_)
 simp only [argS]
 repeat' (first|(with_reducible apply zz1)|((with_reducible apply zz2);rfl;intro K' hK';simp only [WA,simprocAttr,hwa];(repeat (constructor;focus (clear hK';intros;simp_all;done)));(try (apply hK';clear hK' K')))|((with_reducible apply zz3);rfl;all_goals (intro h;try exact absurd h (by decide))))
 refine stop_cS rfl (by simp only [UA,WA,simprocAttr]) (hi) ?_
 simp only [WA,simprocAttr,UM, ]
 (try (apply hK';clear hK' K'))
 repeat' (first|(with_reducible apply zz1)|((with_reducible apply zz2);rfl;intro K' hK';simp only [WA,simprocAttr];(repeat (constructor;focus (clear hK';intros;simp_all;done)));(try (apply hK';clear hK' K')))|((with_reducible apply zz3);rfl;all_goals (intro h;try exact absurd h (by decide))))
 refine swp_nilB 2 3 3 1 rfl rfl rfl (by decide) ?_
 simp only [WA,simprocAttr]
 refine swp_nilB 2 4 4 5 rfl rfl rfl (by decide) ?_
 simp only [WA,simprocAttr]
 refine swp_loop (α := (List ByteArray × List Tp) × Nat) (fun p=>[(0,.ref 0 0),(4,.ref 1 0),(5,.ref 2 0)]) (fun p=>[(0,.cells [.d (sD s),.d (iD (p.2 : Nat))]),(1,.cells zeroT),(2,.cells [.d (iD kd),.d (iD 0),.d (sD ⟨#[]⟩),.own 3,.own 4]),(3,.row 1 (p.1.1.map sD)),(4,.row 5 (Tp.ds p.1.2))])
  (fun p=>p.2 ≤ s.size ∧ p.1.1.length ≤ 6 ∧ p.1.2.length = p.1.1.length ∧ CLoop Γ s kd p.1.1 p.1.2 p.2 (.ok z e)) (fun p=>s.size - p.2) (([],[]),wAt s (a0 + 1) + 1) ⟨by have:=isB_lt hq;show wAt s (a0 + 1) + 1 ≤ s.size;omega,Nat.zero_le _,rfl,hp0⟩ (by simp only [List.map_nil,Tp.ds];refine sub_of h0 ?_ ?_ ?_ <;> simp only [US,WA,simprocAttr]) (fun p hp=>?_)
 obtain ⟨⟨L,K⟩,a⟩:=p
 obtain ⟨ha,hL6,hKL,hp⟩:=hp
 simp only at ha hL6 hKL hp ⊢
 have hdl:=Tp.ds_len K
 have hwd:=word_fn Γ s hs a ha
 have hn:=isName_fn Γ (wOf s a)
 obtain ⟨hk1,hk2⟩:=wAt_in s a ha
 have hwz:=wOf_in s a ha
 have hwr : IntKind.i64.wrap ((wAt s a : Int) + ((wOf s a).size : Int)) = ((wAt s a + (wOf s a).size : Nat) : Int):=by rw [wrap_in (by omega) (by omega)];omega
 have m1 : (L.length + 1) * 16 ≤ 140737488355328:=by omega
 have m2 : L.length + 1 ≤ maxLen:=by unfold maxLen;omega
 have m3 : (K.length + 1) * 80 ≤ 140737488355328:=by omega
 have m4 : K.length + 1 ≤ maxLen:=by unfold maxLen;omega
 clear hi hp0
 cases hp with
 | done _ _ _ h hc x b hb hb2 hr he =>
  have hc5:=isB_lt hc
  have hsc:=sign_l Γ s hs (wAt s a + (wOf s a).size) hwz 58 58 rfl hc
  have hie:=is_l Γ s hs b hb2 125 125 rfl
  rw [he] at hie
  have heb:=isB_lt he
  have hwe : IntKind.i64.wrap ((wAt s b : Int) + 1) = ((wAt s b + 1 : Nat) : Int):=by rw [wrap_in (by omega) (by omega)];omega
  obtain ⟨xk,xso,xnm,xls,xl⟩:=x
  simp only [RdT,Tp.d,ds_app,List.map_append,List.map_cons,List.map_nil] at hr ⊢
  generalize wAt s (wAt s a + (wOf s a).size) = c2 at *
  generalize wAt s b = e2 at *
  generalize hC : wAt s a = c at *
  generalize hW : wOf s a = w at *
  unfold rBox at hwd hsc hr hie
  rcases bad_cases h with ⟨hnm,hB,hLq⟩ | ⟨hnm,hL,hB⟩ | ⟨hnm,q,hq0,hq1,hB⟩
  · cases hB
  · rw [hnm] at hn
    subst hL
    -- TRACE
    repeat' (first|(with_reducible apply zz1)|((with_reducible apply zz2);rfl;intro K' hK';simp only [WA,simprocAttr];(repeat (constructor;focus (clear hK';intros;simp_all;done)));(try (apply hK';clear hK' K')))|((with_reducible apply zz3);rfl;all_goals (intro h;try exact absurd h (by decide))))
    refine stop_cS rfl (by simp only [UA,WA,simprocAttr]) (hwd) ?_
    simp only [WA,simprocAttr,UM, ]
    (try (apply hK';clear hK' K'))
    repeat' (first|(with_reducible apply zz1)|((with_reducible apply zz2);rfl;intro K' hK';simp only [WA,simprocAttr];(repeat (constructor;focus (clear hK';intros;simp_all;done)));(try (apply hK';clear hK' K')))|((with_reducible apply zz3);rfl;all_goals (intro h;try exact absurd h (by decide))))
    refine stop_callF rfl (by simp only [WA,simprocAttr]) rfl rfl (hn) ?_
    simp only [WA,simprocAttr,inX,dropS,List.map_nil,List.length_nil,List.getD_nil,D_default,false_implies,Bool.false_eq_true,implies_true,Bool.not_true,Bool.not_false,Bool.true_and,Bool.and_true,Bool.false_and,Bool.and_false,Bool.true_or,Bool.or_true,Bool.false_or,Bool.or_false,cond_true,cond_false]
    (repeat (constructor;focus (clear hK';intros;simp_all;done)))
    (try (apply hK';clear hK' K'))
    refine stop_unmetB rfl rfl ?_
    simp only [WA,simprocAttr,List.map_nil,List.length_nil,false_implies,Bool.false_eq_true,implies_true,Bool.not_true,Bool.not_false,Bool.true_and,Bool.and_true,Bool.false_and,Bool.and_false,Bool.true_or,Bool.or_true,Bool.false_or,Bool.or_false,cond_true,cond_false]
    (try (apply hK';clear hK' K'))
    repeat' (first|(with_reducible apply zz1)|((with_reducible apply zz2);rfl;intro K' hK';simp only [WA,simprocAttr,hwr];(repeat (constructor;focus (clear hK';intros;simp_all;done)));(try (apply hK';clear hK' K')))|((with_reducible apply zz3);rfl;all_goals (intro h;try exact absurd h (by decide))))
    refine stop_cS rfl (by simp only [UA,WA,simprocAttr]) (hsc) ?_
    simp only [WA,simprocAttr,UM, ]
    (try (apply hK';clear hK' K'))
    repeat' (first|(with_reducible apply zz1)|((with_reducible apply zz2);rfl;intro K' hK';simp only [WA,simprocAttr];(repeat (constructor;focus (clear hK';intros;simp_all;done)));(try (apply hK';clear hK' K')))|((with_reducible apply zz3);rfl;all_goals (intro h;try exact absurd h (by decide))))
    (with_reducible refine swp_drawX ?_ ?_ ?_ (⟨⟨[],[]⟩,[(8,(0,([.d (sD s),.d (iD (b : Nat))],.agg [iD xk,iD xso,sD xnm,.slc (xls.map sD),.slc (Tp.ds xl)])))],[],[],[]⟩) _ rfl (fun K' hK' gops fin hgops hfin=>?_)
     · kernel_rfl
     · rfl
     · rfl
     repeat' first
      | (refine vcX_dead rfl trivial (by simp only [WA,simprocAttr,UX,UA];rfl) (by simp only [List.nil_append,List.cons_append];rfl) (by simp only [zn2];rfl) ?_)
      | (refine vcX_step rfl rfl trivial (by simp only [WA,simprocAttr,UX,UA,hr,List.length_map,hdl,m1,m2,m3,m4,one_max ];rfl) ?_ (by simp only [WA,simprocAttr,UX,UA];rfl) (by simp only [WA,simprocAttr,UX,UA];rfl) (by simp only [List.nil_append,List.cons_append];rfl) (by simp only [zn2];rfl) ?_;focus (first | trivial | ((repeat' constructor) <;> first | trivial | assumption | (clear hK' hfin hgops;intros;simp_all;done))))
     (refine vcX_nil (by subst hfin;kernel_rfl) ?_)
     clear hfin hgops fin gops
     (try (apply hK';clear hK' K')))
    repeat' (first|(with_reducible apply zz1)|((with_reducible apply zz2);rfl;intro K' hK';simp only [WA,simprocAttr];(repeat (constructor;focus (clear hK';intros;simp_all;done)));(try (apply hK';clear hK' K')))|((with_reducible apply zz3);rfl;all_goals (intro h;try exact absurd h (by decide))))
    refine stop_cS rfl (by simp only [UA,WA,simprocAttr]) (hie) ?_
    simp only [WA,simprocAttr,UM, ]
    (try (apply hK';clear hK' K'))
    repeat' (first|(with_reducible apply zz1)|((with_reducible apply zz2);rfl;intro K' hK';simp only [WA,simprocAttr,hwe];(repeat (constructor;focus (clear hK';intros;simp_all;done)));(try (apply hK';clear hK' K')))|((with_reducible apply zz3);rfl;all_goals (intro h;try exact absurd h (by decide))))
    simp only [KretS,retL,retOne,oneV,US,WA,simprocAttr,h0]
  · rw [hnm] at hn
    have g1 : (0 : Int) < (L.length : Int):=by omega
    have g2 : IntKind.i64.wrap ((L.length : Int) - 1) = ((L.length - 1 : Nat) : Int):=by rw [wrap_in (by omega) (by omega)];omega
    have g3 : ((L.length - 1 : Nat) : Int) < (L.length : Int):=by omega
    have g4 : (0 : Int) ≤ ((L.length - 1 : Nat) : Int):=by omega
    rcases hB with ⟨hle,hB⟩ | ⟨hle,h6⟩
    · cases hB
    · unfold leB at hle
      have h6 : ¬ L.length = 6:=by simpa using h6
      have g6 : ((L.length : Int) == 6) = false:=by simpa using (by omega : (L.length : Int) ≠ 6)
      repeat' (first|(with_reducible apply zz1)|((with_reducible apply zz2);rfl;intro K' hK';simp only [WA,simprocAttr];(repeat (constructor;focus (clear hK';intros;simp_all;done)));(try (apply hK';clear hK' K')))|((with_reducible apply zz3);rfl;all_goals (intro h;try exact absurd h (by decide))))
      refine stop_cS rfl (by simp only [UA,WA,simprocAttr]) (hwd) ?_
      simp only [WA,simprocAttr,UM, ]
      (try (apply hK';clear hK' K'))
      repeat' (first|(with_reducible apply zz1)|((with_reducible apply zz2);rfl;intro K' hK';simp only [WA,simprocAttr];(repeat (constructor;focus (clear hK';intros;simp_all;done)));(try (apply hK';clear hK' K')))|((with_reducible apply zz3);rfl;all_goals (intro h;try exact absurd h (by decide))))
      refine stop_callF rfl (by simp only [WA,simprocAttr]) rfl rfl (hn) ?_
      simp only [WA,simprocAttr,inX,dropS,List.length_map,g1,g2,g3,g4,g6,hq1,hle,Int.toNat_natCast,false_implies,Bool.false_eq_true,implies_true,Bool.not_true,Bool.not_false,Bool.true_and,Bool.and_true,Bool.false_and,Bool.and_false,Bool.true_or,Bool.or_true,Bool.false_or,Bool.or_false,cond_true,cond_false]
      (repeat (constructor;focus (clear hK';intros;simp_all;done)))
      (try (apply hK';clear hK' K'))
      repeat' (first|(with_reducible apply zz1)|((with_reducible apply zz2);rfl;intro K' hK';simp only [WA,simprocAttr,hwr];(repeat (constructor;focus (clear hK';intros;simp_all;done)));(try (apply hK';clear hK' K')))|((with_reducible apply zz3);rfl;all_goals (intro h;try exact absurd h (by decide))))
      refine stop_cS rfl (by simp only [UA,WA,simprocAttr]) (hsc) ?_
      simp only [WA,simprocAttr,UM, ]
      (try (apply hK';clear hK' K'))
      repeat' (first|(with_reducible apply zz1)|((with_reducible apply zz2);rfl;intro K' hK';simp only [WA,simprocAttr];(repeat (constructor;focus (clear hK';intros;simp_all;done)));(try (apply hK';clear hK' K')))|((with_reducible apply zz3);rfl;all_goals (intro h;try exact absurd h (by decide))))
      (with_reducible refine swp_drawX ?_ ?_ ?_ (⟨⟨[],[]⟩,[(8,(0,([.d (sD s),.d (iD (b : Nat))],.agg [iD xk,iD xso,sD xnm,.slc (xls.map sD),.slc (Tp.ds xl)])))],[],[],[]⟩) _ rfl (fun K' hK' gops fin hgops hfin=>?_)
       · kernel_rfl
       · rfl
       · rfl
       repeat' first
        | (refine vcX_dead rfl trivial (by simp only [WA,simprocAttr,UX,UA];rfl) (by simp only [List.nil_append,List.cons_append];rfl) (by simp only [zn2];rfl) ?_)
        | (refine vcX_step rfl rfl trivial (by simp only [WA,simprocAttr,UX,UA,hr,List.length_map,hdl,m1,m2,m3,m4,one_max ];rfl) ?_ (by simp only [WA,simprocAttr,UX,UA];rfl) (by simp only [WA,simprocAttr,UX,UA];rfl) (by simp only [List.nil_append,List.cons_append];rfl) (by simp only [zn2];rfl) ?_;focus (first | trivial | ((repeat' constructor) <;> first | trivial | assumption | (clear hK' hfin hgops;intros;simp_all;done))))
       (refine vcX_nil (by subst hfin;kernel_rfl) ?_)
       clear hfin hgops fin gops
       (try (apply hK';clear hK' K')))
      repeat' (first|(with_reducible apply zz1)|((with_reducible apply zz2);rfl;intro K' hK';simp only [WA,simprocAttr];(repeat (constructor;focus (clear hK';intros;simp_all;done)));(try (apply hK';clear hK' K')))|((with_reducible apply zz3);rfl;all_goals (intro h;try exact absurd h (by decide))))
      refine stop_cS rfl (by simp only [UA,WA,simprocAttr]) (hie) ?_
      simp only [WA,simprocAttr,UM, ]
      (try (apply hK';clear hK' K'))
      repeat' (first|(with_reducible apply zz1)|((with_reducible apply zz2);rfl;intro K' hK';simp only [WA,simprocAttr,hwe];(repeat (constructor;focus (clear hK';intros;simp_all;done)));(try (apply hK';clear hK' K')))|((with_reducible apply zz3);rfl;all_goals (intro h;try exact absurd h (by decide))))
      simp only [KretS,retL,retOne,oneV,US,WA,simprocAttr,h0]
 | more _ _ _ h hc x b hb hb2 hr he hk _ ht =>
  have hc5:=isB_lt hc
  have hsc:=sign_l Γ s hs (wAt s a + (wOf s a).size) hwz 58 58 rfl hc
  have hie:=is_l Γ s hs b hb2 125 125 rfl
  rw [he] at hie
  have hkb:=isB_lt hk
  have hb0:=(wAt_in s b hb2).1
  have hsk : SFn Tryd.prog Γ 135 [.ref 0 0,.d (.v (.int .u8 44))] (rBox s (wAt s b)) (.tup []) (rBox s (wAt s b + 1)):=by
   have:=sign_l Γ s hs (wAt s b) (by omega) 44 44 rfl (by rw [isB_at];exact hk)
   rw [wAt_again] at this
   exact this
  have hlt : a < wAt s b + 1:=by omega
  have hlen6 : L.length + 1 ≤ 6:=by
   rcases bad_cases h with ⟨-,hB, -⟩ | ⟨-,hL, -⟩ | ⟨-,q, -, -,⟨-,hB⟩ | ⟨-,hB⟩⟩
   · cases hB
   · rw [hL];simp
   · cases hB
   · have : ¬ L.length = 6:=by simpa using hB
     omega
  have hds:=ds_app K x
  obtain ⟨xk,xso,xnm,xls,xl⟩:=x
  simp only [RdT,Tp.d] at hr hds
  generalize wAt s (wAt s a + (wOf s a).size) = c2 at *
  generalize wAt s b = e2 at *
  generalize hC : wAt s a = c at *
  generalize hW : wOf s a = w at *
  unfold rBox at hwd hsc hr hie hsk
  rcases bad_cases h with ⟨hnm,hB,hLq⟩ | ⟨hnm,hL,hB⟩ | ⟨hnm,q,hq0,hq1,hB⟩
  · cases hB
  · rw [hnm] at hn
    subst hL
    -- TRACE
    repeat' (first|(with_reducible apply zz1)|((with_reducible apply zz2);rfl;intro K' hK';simp only [WA,simprocAttr];(repeat (constructor;focus (clear hK';intros;simp_all;done)));(try (apply hK';clear hK' K')))|((with_reducible apply zz3);rfl;all_goals (intro h;try exact absurd h (by decide))))
    refine stop_cS rfl (by simp only [UA,WA,simprocAttr]) (hwd) ?_
    simp only [WA,simprocAttr,UM, ]
    (try (apply hK';clear hK' K'))
    repeat' (first|(with_reducible apply zz1)|((with_reducible apply zz2);rfl;intro K' hK';simp only [WA,simprocAttr];(repeat (constructor;focus (clear hK';intros;simp_all;done)));(try (apply hK';clear hK' K')))|((with_reducible apply zz3);rfl;all_goals (intro h;try exact absurd h (by decide))))
    refine stop_callF rfl (by simp only [WA,simprocAttr]) rfl rfl (hn) ?_
    simp only [WA,simprocAttr,inX,dropS,List.map_nil,List.length_nil,List.getD_nil,D_default,false_implies,Bool.false_eq_true,implies_true,Bool.not_true,Bool.not_false,Bool.true_and,Bool.and_true,Bool.false_and,Bool.and_false,Bool.true_or,Bool.or_true,Bool.false_or,Bool.or_false,cond_true,cond_false]
    (repeat (constructor;focus (clear hK';intros;simp_all;done)))
    (try (apply hK';clear hK' K'))
    refine stop_unmetB rfl rfl ?_
    simp only [WA,simprocAttr,List.map_nil,List.length_nil,false_implies,Bool.false_eq_true,implies_true,Bool.not_true,Bool.not_false,Bool.true_and,Bool.and_true,Bool.false_and,Bool.and_false,Bool.true_or,Bool.or_true,Bool.false_or,Bool.or_false,cond_true,cond_false]
    (try (apply hK';clear hK' K'))
    repeat' (first|(with_reducible apply zz1)|((with_reducible apply zz2);rfl;intro K' hK';simp only [WA,simprocAttr,hwr];(repeat (constructor;focus (clear hK';intros;simp_all;done)));(try (apply hK';clear hK' K')))|((with_reducible apply zz3);rfl;all_goals (intro h;try exact absurd h (by decide))))
    refine stop_cS rfl (by simp only [UA,WA,simprocAttr]) (hsc) ?_
    simp only [WA,simprocAttr,UM, ]
    (try (apply hK';clear hK' K'))
    repeat' (first|(with_reducible apply zz1)|((with_reducible apply zz2);rfl;intro K' hK';simp only [WA,simprocAttr];(repeat (constructor;focus (clear hK';intros;simp_all;done)));(try (apply hK';clear hK' K')))|((with_reducible apply zz3);rfl;all_goals (intro h;try exact absurd h (by decide))))
    (with_reducible refine swp_drawX ?_ ?_ ?_ (⟨⟨[],[]⟩,[(8,(0,([.d (sD s),.d (iD (b : Nat))],.agg [iD xk,iD xso,sD xnm,.slc (xls.map sD),.slc (Tp.ds xl)])))],[],[],[]⟩) _ rfl (fun K' hK' gops fin hgops hfin=>?_)
     · kernel_rfl
     · rfl
     · rfl
     repeat' first
      | (refine vcX_dead rfl trivial (by simp only [WA,simprocAttr,UX,UA];rfl) (by simp only [List.nil_append,List.cons_append];rfl) (by simp only [zn2];rfl) ?_)
      | (refine vcX_step rfl rfl trivial (by simp only [WA,simprocAttr,UX,UA,hr,List.length_map,hdl,m1,m2,m3,m4,one_max ];rfl) ?_ (by simp only [WA,simprocAttr,UX,UA];rfl) (by simp only [WA,simprocAttr,UX,UA];rfl) (by simp only [List.nil_append,List.cons_append];rfl) (by simp only [zn2];rfl) ?_;focus (first | trivial | ((repeat' constructor) <;> first | trivial | assumption | (clear hK' hfin hgops;intros;simp_all;done))))
     (refine vcX_nil (by subst hfin;kernel_rfl) ?_)
     clear hfin hgops fin gops
     (try (apply hK';clear hK' K')))
    repeat' (first|(with_reducible apply zz1)|((with_reducible apply zz2);rfl;intro K' hK';simp only [WA,simprocAttr];(repeat (constructor;focus (clear hK';intros;simp_all;done)));(try (apply hK';clear hK' K')))|((with_reducible apply zz3);rfl;all_goals (intro h;try exact absurd h (by decide))))
    refine stop_cS rfl (by simp only [UA,WA,simprocAttr]) (hie) ?_
    simp only [WA,simprocAttr,UM, ]
    (try (apply hK';clear hK' K'))
    repeat' (first|(with_reducible apply zz1)|((with_reducible apply zz2);rfl;intro K' hK';simp only [WA,simprocAttr];(repeat (constructor;focus (clear hK';intros;simp_all;done)));(try (apply hK';clear hK' K')))|((with_reducible apply zz3);rfl;all_goals (intro h;try exact absurd h (by decide))))
    refine stop_cS rfl (by simp only [UA,WA,simprocAttr]) (hsk) ?_
    simp only [WA,simprocAttr,UM, ]
    (try (apply hK';clear hK' K'))
    repeat' (first|(with_reducible apply zz1)|((with_reducible apply zz2);rfl;intro K' hK';simp only [WA,simprocAttr];(repeat (constructor;focus (clear hK';intros;simp_all;done)));(try (apply hK';clear hK' K')))|((with_reducible apply zz3);rfl;all_goals (intro h;try exact absurd h (by decide))))
    refine ⟨((_,_),_),⟨hkb,by simp only [List.length_append,List.length_cons,List.length_nil] at hlen6 ⊢;exact hlen6,by simp only [List.length_append,List.length_cons,List.length_nil] at hKL ⊢;rw [hKL],ht⟩,(by show s.size - (e2 + 1) < s.size - a;omega),?_⟩
    refine sub_of h0 ?_ ?_ ?_ <;> simp only [US,WA,simprocAttr,hds,List.map_append,List.map_cons,List.map_nil]
  · rw [hnm] at hn
    have g1 : (0 : Int) < (L.length : Int):=by omega
    have g2 : IntKind.i64.wrap ((L.length : Int) - 1) = ((L.length - 1 : Nat) : Int):=by rw [wrap_in (by omega) (by omega)];omega
    have g3 : ((L.length - 1 : Nat) : Int) < (L.length : Int):=by omega
    have g4 : (0 : Int) ≤ ((L.length - 1 : Nat) : Int):=by omega
    rcases hB with ⟨hle,hB⟩ | ⟨hle,h6⟩
    · cases hB
    · unfold leB at hle
      have h6 : ¬ L.length = 6:=by simpa using h6
      have g6 : ((L.length : Int) == 6) = false:=by simpa using (by omega : (L.length : Int) ≠ 6)
      repeat' (first|(with_reducible apply zz1)|((with_reducible apply zz2);rfl;intro K' hK';simp only [WA,simprocAttr];(repeat (constructor;focus (clear hK';intros;simp_all;done)));(try (apply hK';clear hK' K')))|((with_reducible apply zz3);rfl;all_goals (intro h;try exact absurd h (by decide))))
      refine stop_cS rfl (by simp only [UA,WA,simprocAttr]) (hwd) ?_
      simp only [WA,simprocAttr,UM, ]
      (try (apply hK';clear hK' K'))
      repeat' (first|(with_reducible apply zz1)|((with_reducible apply zz2);rfl;intro K' hK';simp only [WA,simprocAttr];(repeat (constructor;focus (clear hK';intros;simp_all;done)));(try (apply hK';clear hK' K')))|((with_reducible apply zz3);rfl;all_goals (intro h;try exact absurd h (by decide))))
      refine stop_callF rfl (by simp only [WA,simprocAttr]) rfl rfl (hn) ?_
      simp only [WA,simprocAttr,inX,dropS,List.length_map,g1,g2,g3,g4,g6,hq1,hle,Int.toNat_natCast,false_implies,Bool.false_eq_true,implies_true,Bool.not_true,Bool.not_false,Bool.true_and,Bool.and_true,Bool.false_and,Bool.and_false,Bool.true_or,Bool.or_true,Bool.false_or,Bool.or_false,cond_true,cond_false]
      (repeat (constructor;focus (clear hK';intros;simp_all;done)))
      (try (apply hK';clear hK' K'))
      repeat' (first|(with_reducible apply zz1)|((with_reducible apply zz2);rfl;intro K' hK';simp only [WA,simprocAttr,hwr];(repeat (constructor;focus (clear hK';intros;simp_all;done)));(try (apply hK';clear hK' K')))|((with_reducible apply zz3);rfl;all_goals (intro h;try exact absurd h (by decide))))
      refine stop_cS rfl (by simp only [UA,WA,simprocAttr]) (hsc) ?_
      simp only [WA,simprocAttr,UM, ]
      (try (apply hK';clear hK' K'))
      repeat' (first|(with_reducible apply zz1)|((with_reducible apply zz2);rfl;intro K' hK';simp only [WA,simprocAttr];(repeat (constructor;focus (clear hK';intros;simp_all;done)));(try (apply hK';clear hK' K')))|((with_reducible apply zz3);rfl;all_goals (intro h;try exact absurd h (by decide))))
      (with_reducible refine swp_drawX ?_ ?_ ?_ (⟨⟨[],[]⟩,[(8,(0,([.d (sD s),.d (iD (b : Nat))],.agg [iD xk,iD xso,sD xnm,.slc (xls.map sD),.slc (Tp.ds xl)])))],[],[],[]⟩) _ rfl (fun K' hK' gops fin hgops hfin=>?_)
       · kernel_rfl
       · rfl
       · rfl
       repeat' first
        | (refine vcX_dead rfl trivial (by simp only [WA,simprocAttr,UX,UA];rfl) (by simp only [List.nil_append,List.cons_append];rfl) (by simp only [zn2];rfl) ?_)
        | (refine vcX_step rfl rfl trivial (by simp only [WA,simprocAttr,UX,UA,hr,List.length_map,hdl,m1,m2,m3,m4,one_max ];rfl) ?_ (by simp only [WA,simprocAttr,UX,UA];rfl) (by simp only [WA,simprocAttr,UX,UA];rfl) (by simp only [List.nil_append,List.cons_append];rfl) (by simp only [zn2];rfl) ?_;focus (first | trivial | ((repeat' constructor) <;> first | trivial | assumption | (clear hK' hfin hgops;intros;simp_all;done))))
       (refine vcX_nil (by subst hfin;kernel_rfl) ?_)
       clear hfin hgops fin gops
       (try (apply hK';clear hK' K')))
      repeat' (first|(with_reducible apply zz1)|((with_reducible apply zz2);rfl;intro K' hK';simp only [WA,simprocAttr];(repeat (constructor;focus (clear hK';intros;simp_all;done)));(try (apply hK';clear hK' K')))|((with_reducible apply zz3);rfl;all_goals (intro h;try exact absurd h (by decide))))
      refine stop_cS rfl (by simp only [UA,WA,simprocAttr]) (hie) ?_
      simp only [WA,simprocAttr,UM, ]
      (try (apply hK';clear hK' K'))
      repeat' (first|(with_reducible apply zz1)|((with_reducible apply zz2);rfl;intro K' hK';simp only [WA,simprocAttr];(repeat (constructor;focus (clear hK';intros;simp_all;done)));(try (apply hK';clear hK' K')))|((with_reducible apply zz3);rfl;all_goals (intro h;try exact absurd h (by decide))))
      refine stop_cS rfl (by simp only [UA,WA,simprocAttr]) (hsk) ?_
      simp only [WA,simprocAttr,UM, ]
      (try (apply hK';clear hK' K'))
      repeat' (first|(with_reducible apply zz1)|((with_reducible apply zz2);rfl;intro K' hK';simp only [WA,simprocAttr];(repeat (constructor;focus (clear hK';intros;simp_all;done)));(try (apply hK';clear hK' K')))|((with_reducible apply zz3);rfl;all_goals (intro h;try exact absurd h (by decide))))
      refine ⟨((_,_),_),⟨hkb,by simp only [List.length_append,List.length_cons,List.length_nil] at hlen6 ⊢;exact hlen6,by simp only [List.length_append,List.length_cons,List.length_nil] at hKL ⊢;rw [hKL],ht⟩,(by show s.size - (e2 + 1) < s.size - a;omega),?_⟩
      refine sub_of h0 ?_ ?_ ?_ <;> simp only [US,WA,simprocAttr,hds,List.map_append,List.map_cons,List.map_nil]
set_option maxHeartbeats 16000000 in
set_option maxRecDepth 100000 in
theorem choice_no (Γ : Gl) (s : ByteArray) (hs : s.size ≤ 2000) (kd : Int) (a0 : Nat) (ha0 : a0 < s.size) (hq : isB s (a0 + 1) 123 = true) (e : Nat) (hp0 : CLoop Γ s kd [] [] (wAt s (a0 + 1) + 1) (.no e)) : RdT Γ s 138 [.d (iD kd)] a0 (.no e):=by
 have hwa : IntKind.i64.wrap ((a0 : Int) + 1) = ((a0 + 1 : Nat) : Int):=by rw [wrap_in (by omega) (by omega)];omega
 have hi:=sign_l Γ s hs (a0 + 1) (by omega) 123 123 rfl hq
 unfold RdT
 unfold rBox at hi ⊢
 refine xfn_of_swp (N:=85) Tryd.func138 rfl (by decide) rfl (by simp) (fun C h0=>?_)
 simp only [argS]
 repeat' (first|(with_reducible apply zz1)|((with_reducible apply zz2);rfl;intro K' hK';simp only [WA,simprocAttr,hwa];(repeat (constructor;focus (clear hK';intros;simp_all;done)));(try (apply hK';clear hK' K')))|((with_reducible apply zz3);rfl;all_goals (intro h;try exact absurd h (by decide))))
 refine stop_cS rfl (by simp only [UA,WA,simprocAttr]) (hi) ?_
 simp only [WA,simprocAttr,UM, ]
 (try (apply hK';clear hK' K'))
 repeat' (first|(with_reducible apply zz1)|((with_reducible apply zz2);rfl;intro K' hK';simp only [WA,simprocAttr];(repeat (constructor;focus (clear hK';intros;simp_all;done)));(try (apply hK';clear hK' K')))|((with_reducible apply zz3);rfl;all_goals (intro h;try exact absurd h (by decide))))
 refine swp_nilB 2 3 3 1 rfl rfl rfl (by decide) ?_
 simp only [WA,simprocAttr]
 refine swp_nilB 2 4 4 5 rfl rfl rfl (by decide) ?_
 simp only [WA,simprocAttr]
 refine swp_loop (α := (List ByteArray × List Tp) × Nat) (fun p=>[(0,.ref 0 0),(4,.ref 1 0),(5,.ref 2 0)]) (fun p=>[(0,.cells [.d (sD s),.d (iD (p.2 : Nat))]),(1,.cells zeroT),(2,.cells [.d (iD kd),.d (iD 0),.d (sD ⟨#[]⟩),.own 3,.own 4]),(3,.row 1 (p.1.1.map sD)),(4,.row 5 (Tp.ds p.1.2))])
  (fun p=>p.2 ≤ s.size ∧ p.1.1.length ≤ 6 ∧ p.1.2.length = p.1.1.length ∧ CLoop Γ s kd p.1.1 p.1.2 p.2 (.no e)) (fun p=>s.size - p.2) (([],[]),wAt s (a0 + 1) + 1) ⟨by have:=isB_lt hq;show wAt s (a0 + 1) + 1 ≤ s.size;omega,Nat.zero_le _,rfl,hp0⟩ (by simp only [List.map_nil,Tp.ds];refine sub_of h0 ?_ ?_ ?_ <;> simp only [US,WA,simprocAttr]) (fun p hp=>?_)
 obtain ⟨⟨L,K⟩,a⟩:=p
 obtain ⟨ha,hL6,hKL,hp⟩:=hp
 simp only at ha hL6 hKL hp ⊢
 have hdl:=Tp.ds_len K
 have hwd:=word_fn Γ s hs a ha
 have hn:=isName_fn Γ (wOf s a)
 obtain ⟨hk1,hk2⟩:=wAt_in s a ha
 have hwz:=wOf_in s a ha
 have hwr : IntKind.i64.wrap ((wAt s a : Int) + ((wOf s a).size : Int)) = ((wAt s a + (wOf s a).size : Nat) : Int):=by rw [wrap_in (by omega) (by omega)];omega
 have m1 : (L.length + 1) * 16 ≤ 140737488355328:=by omega
 have m2 : L.length + 1 ≤ maxLen:=by unfold maxLen;omega
 have m3 : (K.length + 1) * 80 ≤ 140737488355328:=by omega
 have m4 : K.length + 1 ≤ maxLen:=by unfold maxLen;omega
 clear hi hp0
 generalize hE : Rt.no e = RE at hp
 cases hp with
 | done _ _ _ h hc x b hb hb2 hr he=>cases hE
 | bad _ _ _ h =>
  cases hE
  have hf:=fail_fn Γ s (wAt s a : Nat)
  generalize hC : wAt s a = c at *
  generalize hW : wOf s a = w at *
  unfold rBox at hwd
  rcases bad_cases h with ⟨hnm,hB,hLq⟩ | ⟨hnm,hL,hB⟩ | ⟨hnm,q,hq0,hq1,hB⟩
  · rw [hnm] at hn
    rcases hLq with hL | ⟨q,hq0,hq1⟩
    · subst hL
      repeat' (first|(with_reducible apply zz1)|((with_reducible apply zz2);rfl;intro K' hK';simp only [WA,simprocAttr];(repeat (constructor;focus (clear hK';intros;simp_all;done)));(try (apply hK';clear hK' K')))|((with_reducible apply zz3);rfl;all_goals (intro h;try exact absurd h (by decide))))
      refine stop_cS rfl (by simp only [UA,WA,simprocAttr]) (hwd) ?_
      simp only [WA,simprocAttr,UM, ]
      (try (apply hK';clear hK' K'))
      repeat' (first|(with_reducible apply zz1)|((with_reducible apply zz2);rfl;intro K' hK';simp only [WA,simprocAttr];(repeat (constructor;focus (clear hK';intros;simp_all;done)));(try (apply hK';clear hK' K')))|((with_reducible apply zz3);rfl;all_goals (intro h;try exact absurd h (by decide))))
      refine stop_callF rfl (by simp only [WA,simprocAttr]) rfl rfl (hn) ?_
      simp only [WA,simprocAttr,inX,dropS,List.map_nil,List.length_nil,List.getD_nil,D_default,false_implies,Bool.false_eq_true,implies_true,Bool.not_true,Bool.not_false,Bool.true_and,Bool.and_true,Bool.false_and,Bool.and_false,Bool.true_or,Bool.or_true,Bool.false_or,Bool.or_false,cond_true,cond_false]
      (repeat (constructor;focus (clear hK';intros;simp_all;done)))
      (try (apply hK';clear hK' K'))
      refine stop_unmetB rfl rfl ?_
      simp only [WA,simprocAttr,List.map_nil,List.length_nil,false_implies,Bool.false_eq_true,implies_true,Bool.not_true,Bool.not_false,Bool.true_and,Bool.and_true,Bool.false_and,Bool.and_false,Bool.true_or,Bool.or_true,Bool.false_or,Bool.or_false,cond_true,cond_false]
      (try (apply hK';clear hK' K'))
      repeat' (first|(with_reducible first|apply zw0|apply zw1|apply zw2|apply zw3|apply zw4|apply zw5|apply zw6|apply zw7|apply zw8|apply zw9|apply zw10|apply zw11|apply zw13|apply zw14)|((with_reducible refine zw12 ?_ ?_);rfl)|((with_reducible refine swp_regionX ?_ ?_ (fun K' hK' hP'=>?_));rfl;rfl;simp only [WA,simprocAttr];(repeat (constructor;focus (clear hK' hP';intros;simp_all;done)));(try (apply hK';clear hK' hP';clear K')))|((with_reducible refine zw15 ?_ ?_);rfl;refine ⟨_,rfl,fun h=>?_,fun h=>?_⟩ <;> try exact absurd h (by decide)))
      refine stop_cX rfl (by simp only [UA,WA,simprocAttr]) (hf) ?_
      simp only [UM,WA,simprocAttr]
      refine hP' _ _ _ ?_
      repeat (first | refine kseq_p ?_ | refine kblk_p ?_ | refine kloop_p ?_)
      simp only [KpanS,US,WA,simprocAttr,h0]
    · have g1 : (0 : Int) < (L.length : Int):=by omega
      have g2 : IntKind.i64.wrap ((L.length : Int) - 1) = ((L.length - 1 : Nat) : Int):=by rw [wrap_in (by omega) (by omega)];omega
      have g3 : ((L.length - 1 : Nat) : Int) < (L.length : Int):=by omega
      have g4 : (0 : Int) ≤ ((L.length - 1 : Nat) : Int):=by omega
      repeat' (first|(with_reducible apply zz1)|((with_reducible apply zz2);rfl;intro K' hK';simp only [WA,simprocAttr];(repeat (constructor;focus (clear hK';intros;simp_all;done)));(try (apply hK';clear hK' K')))|((with_reducible apply zz3);rfl;all_goals (intro h;try exact absurd h (by decide))))
      refine stop_cS rfl (by simp only [UA,WA,simprocAttr]) (hwd) ?_
      simp only [WA,simprocAttr,UM, ]
      (try (apply hK';clear hK' K'))
      repeat' (first|(with_reducible apply zz1)|((with_reducible apply zz2);rfl;intro K' hK';simp only [WA,simprocAttr];(repeat (constructor;focus (clear hK';intros;simp_all;done)));(try (apply hK';clear hK' K')))|((with_reducible apply zz3);rfl;all_goals (intro h;try exact absurd h (by decide))))
      refine stop_callF rfl (by simp only [WA,simprocAttr]) rfl rfl (hn) ?_
      simp only [WA,simprocAttr,inX,dropS,List.length_map,g1,g2,g3,g4,hq1,Int.toNat_natCast,false_implies,Bool.false_eq_true,implies_true,Bool.not_true,Bool.not_false,Bool.true_and,Bool.and_true,Bool.false_and,Bool.and_false,Bool.true_or,Bool.or_true,Bool.false_or,Bool.or_false,cond_true,cond_false]
      (repeat (constructor;focus (clear hK';intros;simp_all;done)))
      (try (apply hK';clear hK' K'))
      repeat' (first|(with_reducible first|apply zw0|apply zw1|apply zw2|apply zw3|apply zw4|apply zw5|apply zw6|apply zw7|apply zw8|apply zw9|apply zw10|apply zw11|apply zw13|apply zw14)|((with_reducible refine zw12 ?_ ?_);rfl)|((with_reducible refine swp_regionX ?_ ?_ (fun K' hK' hP'=>?_));rfl;rfl;simp only [WA,simprocAttr];(repeat (constructor;focus (clear hK' hP';intros;simp_all;done)));(try (apply hK';clear hK' hP';clear K')))|((with_reducible refine zw15 ?_ ?_);rfl;refine ⟨_,rfl,fun h=>?_,fun h=>?_⟩ <;> try exact absurd h (by decide)))
      refine stop_cX rfl (by simp only [UA,WA,simprocAttr]) (hf) ?_
      simp only [UM,WA,simprocAttr]
      refine hP' _ _ _ ?_
      repeat (first | refine kseq_p ?_ | refine kblk_p ?_ | refine kloop_p ?_)
      simp only [KpanS,US,WA,simprocAttr,h0]
  · cases hB
  · rw [hnm] at hn
    have g1 : (0 : Int) < (L.length : Int):=by omega
    have g2 : IntKind.i64.wrap ((L.length : Int) - 1) = ((L.length - 1 : Nat) : Int):=by rw [wrap_in (by omega) (by omega)];omega
    have g3 : ((L.length - 1 : Nat) : Int) < (L.length : Int):=by omega
    have g4 : (0 : Int) ≤ ((L.length - 1 : Nat) : Int):=by omega
    rcases hB with ⟨hle, -⟩ | ⟨hle,h6⟩
    · unfold leB at hle
      repeat' (first|(with_reducible apply zz1)|((with_reducible apply zz2);rfl;intro K' hK';simp only [WA,simprocAttr];(repeat (constructor;focus (clear hK';intros;simp_all;done)));(try (apply hK';clear hK' K')))|((with_reducible apply zz3);rfl;all_goals (intro h;try exact absurd h (by decide))))
      refine stop_cS rfl (by simp only [UA,WA,simprocAttr]) (hwd) ?_
      simp only [WA,simprocAttr,UM, ]
      (try (apply hK';clear hK' K'))
      repeat' (first|(with_reducible apply zz1)|((with_reducible apply zz2);rfl;intro K' hK';simp only [WA,simprocAttr];(repeat (constructor;focus (clear hK';intros;simp_all;done)));(try (apply hK';clear hK' K')))|((with_reducible apply zz3);rfl;all_goals (intro h;try exact absurd h (by decide))))
      refine stop_callF rfl (by simp only [WA,simprocAttr]) rfl rfl (hn) ?_
      simp only [WA,simprocAttr,inX,dropS,List.length_map,g1,g2,g3,g4,hq1,hle,Int.toNat_natCast,false_implies,Bool.false_eq_true,implies_true,Bool.not_true,Bool.not_false,Bool.true_and,Bool.and_true,Bool.false_and,Bool.and_false,Bool.true_or,Bool.or_true,Bool.false_or,Bool.or_false,cond_true,cond_false]
      (repeat (constructor;focus (clear hK';intros;simp_all;done)))
      (try (apply hK';clear hK' K'))
      repeat' (first|(with_reducible first|apply zw0|apply zw1|apply zw2|apply zw3|apply zw4|apply zw5|apply zw6|apply zw7|apply zw8|apply zw9|apply zw10|apply zw11|apply zw13|apply zw14)|((with_reducible refine zw12 ?_ ?_);rfl)|((with_reducible refine swp_regionX ?_ ?_ (fun K' hK' hP'=>?_));rfl;rfl;simp only [WA,simprocAttr];(repeat (constructor;focus (clear hK' hP';intros;simp_all;done)));(try (apply hK';clear hK' hP';clear K')))|((with_reducible refine zw15 ?_ ?_);rfl;refine ⟨_,rfl,fun h=>?_,fun h=>?_⟩ <;> try exact absurd h (by decide)))
      refine stop_cX rfl (by simp only [UA,WA,simprocAttr]) (hf) ?_
      simp only [UM,WA,simprocAttr]
      refine hP' _ _ _ ?_
      repeat (first | refine kseq_p ?_ | refine kblk_p ?_ | refine kloop_p ?_)
      simp only [KpanS,US,WA,simprocAttr,h0]
    · unfold leB at hle
      have h6 : L.length = 6:=by simpa using h6.symm
      have g6 : ((L.length : Int) == 6) = true:=by simp [h6]
      repeat' (first|(with_reducible apply zz1)|((with_reducible apply zz2);rfl;intro K' hK';simp only [WA,simprocAttr];(repeat (constructor;focus (clear hK';intros;simp_all;done)));(try (apply hK';clear hK' K')))|((with_reducible apply zz3);rfl;all_goals (intro h;try exact absurd h (by decide))))
      refine stop_cS rfl (by simp only [UA,WA,simprocAttr]) (hwd) ?_
      simp only [WA,simprocAttr,UM, ]
      (try (apply hK';clear hK' K'))
      repeat' (first|(with_reducible apply zz1)|((with_reducible apply zz2);rfl;intro K' hK';simp only [WA,simprocAttr];(repeat (constructor;focus (clear hK';intros;simp_all;done)));(try (apply hK';clear hK' K')))|((with_reducible apply zz3);rfl;all_goals (intro h;try exact absurd h (by decide))))
      refine stop_callF rfl (by simp only [WA,simprocAttr]) rfl rfl (hn) ?_
      simp only [WA,simprocAttr,inX,dropS,List.length_map,g1,g2,g3,g4,g6,hq1,hle,Int.toNat_natCast,false_implies,Bool.false_eq_true,implies_true,Bool.not_true,Bool.not_false,Bool.true_and,Bool.and_true,Bool.false_and,Bool.and_false,Bool.true_or,Bool.or_true,Bool.false_or,Bool.or_false,cond_true,cond_false]
      (repeat (constructor;focus (clear hK';intros;simp_all;done)))
      (try (apply hK';clear hK' K'))
      repeat' (first|(with_reducible first|apply zw0|apply zw1|apply zw2|apply zw3|apply zw4|apply zw5|apply zw6|apply zw7|apply zw8|apply zw9|apply zw10|apply zw11|apply zw13|apply zw14)|((with_reducible refine zw12 ?_ ?_);rfl)|((with_reducible refine swp_regionX ?_ ?_ (fun K' hK' hP'=>?_));rfl;rfl;simp only [WA,simprocAttr];(repeat (constructor;focus (clear hK' hP';intros;simp_all;done)));(try (apply hK';clear hK' hP';clear K')))|((with_reducible refine zw15 ?_ ?_);rfl;refine ⟨_,rfl,fun h=>?_,fun h=>?_⟩ <;> try exact absurd h (by decide)))
      refine stop_cX rfl (by simp only [UA,WA,simprocAttr]) (hf) ?_
      simp only [UM,WA,simprocAttr]
      refine hP' _ _ _ ?_
      repeat (first | refine kseq_p ?_ | refine kblk_p ?_ | refine kloop_p ?_)
      simp only [KpanS,US,WA,simprocAttr,h0]
 | colon _ _ _ h hc =>
  have hsc:=sign_x Γ s hs (wAt s a + (wOf s a).size) hwz 58 58 rfl hc
  generalize wAt s (wAt s a + (wOf s a).size) = c2 at *
  cases hE
  generalize hC : wAt s a = c at *
  generalize hW : wOf s a = w at *
  unfold rBox at hwd hsc
  rcases bad_cases h with ⟨hnm,hB,hLq⟩ | ⟨hnm,hL,hB⟩ | ⟨hnm,q,hq0,hq1,hB⟩
  · cases hB
  · rw [hnm] at hn
    subst hL
    -- TRACE
    repeat' (first|(with_reducible apply zz1)|((with_reducible apply zz2);rfl;intro K' hK';simp only [WA,simprocAttr];(repeat (constructor;focus (clear hK';intros;simp_all;done)));(try (apply hK';clear hK' K')))|((with_reducible apply zz3);rfl;all_goals (intro h;try exact absurd h (by decide))))
    refine stop_cS rfl (by simp only [UA,WA,simprocAttr]) (hwd) ?_
    simp only [WA,simprocAttr,UM, ]
    (try (apply hK';clear hK' K'))
    repeat' (first|(with_reducible apply zz1)|((with_reducible apply zz2);rfl;intro K' hK';simp only [WA,simprocAttr];(repeat (constructor;focus (clear hK';intros;simp_all;done)));(try (apply hK';clear hK' K')))|((with_reducible apply zz3);rfl;all_goals (intro h;try exact absurd h (by decide))))
    refine stop_callF rfl (by simp only [WA,simprocAttr]) rfl rfl (hn) ?_
    simp only [WA,simprocAttr,inX,dropS,List.map_nil,List.length_nil,List.getD_nil,D_default,false_implies,Bool.false_eq_true,implies_true,Bool.not_true,Bool.not_false,Bool.true_and,Bool.and_true,Bool.false_and,Bool.and_false,Bool.true_or,Bool.or_true,Bool.false_or,Bool.or_false,cond_true,cond_false]
    (repeat (constructor;focus (clear hK';intros;simp_all;done)))
    (try (apply hK';clear hK' K'))
    refine stop_unmetB rfl rfl ?_
    simp only [WA,simprocAttr,List.map_nil,List.length_nil,false_implies,Bool.false_eq_true,implies_true,Bool.not_true,Bool.not_false,Bool.true_and,Bool.and_true,Bool.false_and,Bool.and_false,Bool.true_or,Bool.or_true,Bool.false_or,Bool.or_false,cond_true,cond_false]
    (try (apply hK';clear hK' K'))
    repeat' (first|(with_reducible first|apply zw0|apply zw1|apply zw2|apply zw3|apply zw4|apply zw5|apply zw6|apply zw7|apply zw8|apply zw9|apply zw10|apply zw11|apply zw13|apply zw14)|((with_reducible refine zw12 ?_ ?_);rfl)|((with_reducible refine swp_regionX ?_ ?_ (fun K' hK' hP'=>?_));rfl;rfl;simp only [WA,simprocAttr,hwr];(repeat (constructor;focus (clear hK' hP';intros;simp_all;done)));(try (apply hK';clear hK' hP';clear K')))|((with_reducible refine zw15 ?_ ?_);rfl;refine ⟨_,rfl,fun h=>?_,fun h=>?_⟩ <;> try exact absurd h (by decide)))
    refine stop_cX rfl (by simp only [UA,WA,simprocAttr]) (hsc) ?_
    simp only [UM,WA,simprocAttr]
    refine hP' _ _ _ ?_
    repeat (first | refine kseq_p ?_ | refine kblk_p ?_ | refine kloop_p ?_)
    simp only [KpanS,US,WA,simprocAttr,h0]
  · rw [hnm] at hn
    have g1 : (0 : Int) < (L.length : Int):=by omega
    have g2 : IntKind.i64.wrap ((L.length : Int) - 1) = ((L.length - 1 : Nat) : Int):=by rw [wrap_in (by omega) (by omega)];omega
    have g3 : ((L.length - 1 : Nat) : Int) < (L.length : Int):=by omega
    have g4 : (0 : Int) ≤ ((L.length - 1 : Nat) : Int):=by omega
    rcases hB with ⟨hle,hB⟩ | ⟨hle,h6⟩
    · cases hB
    · unfold leB at hle
      have h6 : ¬ L.length = 6:=by simpa using h6
      have g6 : ((L.length : Int) == 6) = false:=by simpa using (by omega : (L.length : Int) ≠ 6)
      repeat' (first|(with_reducible apply zz1)|((with_reducible apply zz2);rfl;intro K' hK';simp only [WA,simprocAttr];(repeat (constructor;focus (clear hK';intros;simp_all;done)));(try (apply hK';clear hK' K')))|((with_reducible apply zz3);rfl;all_goals (intro h;try exact absurd h (by decide))))
      refine stop_cS rfl (by simp only [UA,WA,simprocAttr]) (hwd) ?_
      simp only [WA,simprocAttr,UM, ]
      (try (apply hK';clear hK' K'))
      repeat' (first|(with_reducible apply zz1)|((with_reducible apply zz2);rfl;intro K' hK';simp only [WA,simprocAttr];(repeat (constructor;focus (clear hK';intros;simp_all;done)));(try (apply hK';clear hK' K')))|((with_reducible apply zz3);rfl;all_goals (intro h;try exact absurd h (by decide))))
      refine stop_callF rfl (by simp only [WA,simprocAttr]) rfl rfl (hn) ?_
      simp only [WA,simprocAttr,inX,dropS,List.length_map,g1,g2,g3,g4,g6,hq1,hle,Int.toNat_natCast,false_implies,Bool.false_eq_true,implies_true,Bool.not_true,Bool.not_false,Bool.true_and,Bool.and_true,Bool.false_and,Bool.and_false,Bool.true_or,Bool.or_true,Bool.false_or,Bool.or_false,cond_true,cond_false]
      (repeat (constructor;focus (clear hK';intros;simp_all;done)))
      (try (apply hK';clear hK' K'))
      repeat' (first|(with_reducible first|apply zw0|apply zw1|apply zw2|apply zw3|apply zw4|apply zw5|apply zw6|apply zw7|apply zw8|apply zw9|apply zw10|apply zw11|apply zw13|apply zw14)|((with_reducible refine zw12 ?_ ?_);rfl)|((with_reducible refine swp_regionX ?_ ?_ (fun K' hK' hP'=>?_));rfl;rfl;simp only [WA,simprocAttr,hwr];(repeat (constructor;focus (clear hK' hP';intros;simp_all;done)));(try (apply hK';clear hK' hP';clear K')))|((with_reducible refine zw15 ?_ ?_);rfl;refine ⟨_,rfl,fun h=>?_,fun h=>?_⟩ <;> try exact absurd h (by decide)))
      refine stop_cX rfl (by simp only [UA,WA,simprocAttr]) (hsc) ?_
      simp only [UM,WA,simprocAttr]
      refine hP' _ _ _ ?_
      repeat (first | refine kseq_p ?_ | refine kblk_p ?_ | refine kloop_p ?_)
      simp only [KpanS,US,WA,simprocAttr,h0]
 | one _ _ _ h hc b hr =>
  cases hE
  have hc5:=isB_lt hc
  have hsc:=sign_l Γ s hs (wAt s a + (wOf s a).size) hwz 58 58 rfl hc
  simp only [RdT] at hr
  generalize wAt s (wAt s a + (wOf s a).size) = c2 at *
  generalize hC : wAt s a = c at *
  generalize hW : wOf s a = w at *
  unfold rBox at hwd hsc hr
  rcases bad_cases h with ⟨hnm,hB,hLq⟩ | ⟨hnm,hL,hB⟩ | ⟨hnm,q,hq0,hq1,hB⟩
  · cases hB
  · rw [hnm] at hn
    subst hL
    -- TRACE
    repeat' (first|(with_reducible apply zz1)|((with_reducible apply zz2);rfl;intro K' hK';simp only [WA,simprocAttr];(repeat (constructor;focus (clear hK';intros;simp_all;done)));(try (apply hK';clear hK' K')))|((with_reducible apply zz3);rfl;all_goals (intro h;try exact absurd h (by decide))))
    refine stop_cS rfl (by simp only [UA,WA,simprocAttr]) (hwd) ?_
    simp only [WA,simprocAttr,UM, ]
    (try (apply hK';clear hK' K'))
    repeat' (first|(with_reducible apply zz1)|((with_reducible apply zz2);rfl;intro K' hK';simp only [WA,simprocAttr];(repeat (constructor;focus (clear hK';intros;simp_all;done)));(try (apply hK';clear hK' K')))|((with_reducible apply zz3);rfl;all_goals (intro h;try exact absurd h (by decide))))
    refine stop_callF rfl (by simp only [WA,simprocAttr]) rfl rfl (hn) ?_
    simp only [WA,simprocAttr,inX,dropS,List.map_nil,List.length_nil,List.getD_nil,D_default,false_implies,Bool.false_eq_true,implies_true,Bool.not_true,Bool.not_false,Bool.true_and,Bool.and_true,Bool.false_and,Bool.and_false,Bool.true_or,Bool.or_true,Bool.false_or,Bool.or_false,cond_true,cond_false]
    (repeat (constructor;focus (clear hK';intros;simp_all;done)))
    (try (apply hK';clear hK' K'))
    refine stop_unmetB rfl rfl ?_
    simp only [WA,simprocAttr,List.map_nil,List.length_nil,false_implies,Bool.false_eq_true,implies_true,Bool.not_true,Bool.not_false,Bool.true_and,Bool.and_true,Bool.false_and,Bool.and_false,Bool.true_or,Bool.or_true,Bool.false_or,Bool.or_false,cond_true,cond_false]
    (try (apply hK';clear hK' K'))
    repeat' (first|(with_reducible apply zz1)|((with_reducible apply zz2);rfl;intro K' hK';simp only [WA,simprocAttr,hwr];(repeat (constructor;focus (clear hK';intros;simp_all;done)));(try (apply hK';clear hK' K')))|((with_reducible apply zz3);rfl;all_goals (intro h;try exact absurd h (by decide))))
    refine stop_cS rfl (by simp only [UA,WA,simprocAttr]) (hsc) ?_
    simp only [WA,simprocAttr,UM, ]
    (try (apply hK';clear hK' K'))
    repeat' (first|(with_reducible apply zz1)|((with_reducible apply zz2);rfl;intro K' hK';simp only [WA,simprocAttr];(repeat (constructor;focus (clear hK';intros;simp_all;done)));(try (apply hK';clear hK' K')))|((with_reducible apply zz3);rfl;all_goals (intro h;try exact absurd h (by decide))))
    (with_reducible refine swp_drawP ?_ ?_ ?_ (⟨⟨[],[]⟩,[],[],[],[]⟩) _ rfl [] 8 0 ([.d (sD s),.d (iD (e : Nat))]) (failV 3 (e : Nat)) [8,9,10,12,13,14] rfl rfl ?_ (fun K' hK' gops fin hgops hfin=>?_)
     · kernel_rfl
     · rfl
     · rfl
     · kernel_rfl
     repeat' first
      | (refine vcX_dead rfl trivial (by simp only [WA,simprocAttr,UX,UA];rfl) (by simp only [List.nil_append,List.cons_append];rfl) (by simp only [zn2];rfl) ?_)
      | (refine vcX_step rfl rfl trivial (by simp only [WA,simprocAttr,UX,UA,hr,List.length_map,hdl,m1,m2,m3,m4,one_max];rfl) ?_ (by simp only [WA,simprocAttr,UX,UA];rfl) (by simp only [WA,simprocAttr,UX,UA];rfl) (by simp only [List.nil_append,List.cons_append];rfl) (by simp only [zn2];rfl) ?_;focus (first | trivial | ((repeat' constructor) <;> first | trivial | assumption | (clear hK' hfin hgops;intros;simp_all;done))))
      | (refine vcX_dead rfl (by (simp only [WA,simprocAttr,UX,UA,hr,List.length_map,hdl,m1,m2,m3,m4,one_max]) <;> (first | trivial | ((repeat' constructor) <;> first | trivial | assumption | (clear hK' hfin hgops;intros;simp_all;done)))) (by simp only [WA,simprocAttr,UX,UA];rfl) (by simp only [List.nil_append,List.cons_append];rfl) (by simp only [zn2];rfl) ?_)
     (refine vcX_nil (by subst hfin;kernel_rfl) (fun e' s' hbs=>?_))
     clear hfin hgops fin gops
     clear hK' K')
    repeat (first | refine kseq_p ?_ | refine kblk_p ?_ | refine kloop_p ?_)
    simp only [KpanS,US,WA,simprocAttr,h0,lk_put_same]
  · rw [hnm] at hn
    have g1 : (0 : Int) < (L.length : Int):=by omega
    have g2 : IntKind.i64.wrap ((L.length : Int) - 1) = ((L.length - 1 : Nat) : Int):=by rw [wrap_in (by omega) (by omega)];omega
    have g3 : ((L.length - 1 : Nat) : Int) < (L.length : Int):=by omega
    have g4 : (0 : Int) ≤ ((L.length - 1 : Nat) : Int):=by omega
    rcases hB with ⟨hle,hB⟩ | ⟨hle,h6⟩
    · cases hB
    · unfold leB at hle
      have h6 : ¬ L.length = 6:=by simpa using h6
      have g6 : ((L.length : Int) == 6) = false:=by simpa using (by omega : (L.length : Int) ≠ 6)
      repeat' (first|(with_reducible apply zz1)|((with_reducible apply zz2);rfl;intro K' hK';simp only [WA,simprocAttr];(repeat (constructor;focus (clear hK';intros;simp_all;done)));(try (apply hK';clear hK' K')))|((with_reducible apply zz3);rfl;all_goals (intro h;try exact absurd h (by decide))))
      refine stop_cS rfl (by simp only [UA,WA,simprocAttr]) (hwd) ?_
      simp only [WA,simprocAttr,UM, ]
      (try (apply hK';clear hK' K'))
      repeat' (first|(with_reducible apply zz1)|((with_reducible apply zz2);rfl;intro K' hK';simp only [WA,simprocAttr];(repeat (constructor;focus (clear hK';intros;simp_all;done)));(try (apply hK';clear hK' K')))|((with_reducible apply zz3);rfl;all_goals (intro h;try exact absurd h (by decide))))
      refine stop_callF rfl (by simp only [WA,simprocAttr]) rfl rfl (hn) ?_
      simp only [WA,simprocAttr,inX,dropS,List.length_map,g1,g2,g3,g4,g6,hq1,hle,Int.toNat_natCast,false_implies,Bool.false_eq_true,implies_true,Bool.not_true,Bool.not_false,Bool.true_and,Bool.and_true,Bool.false_and,Bool.and_false,Bool.true_or,Bool.or_true,Bool.false_or,Bool.or_false,cond_true,cond_false]
      (repeat (constructor;focus (clear hK';intros;simp_all;done)))
      (try (apply hK';clear hK' K'))
      repeat' (first|(with_reducible apply zz1)|((with_reducible apply zz2);rfl;intro K' hK';simp only [WA,simprocAttr,hwr];(repeat (constructor;focus (clear hK';intros;simp_all;done)));(try (apply hK';clear hK' K')))|((with_reducible apply zz3);rfl;all_goals (intro h;try exact absurd h (by decide))))
      refine stop_cS rfl (by simp only [UA,WA,simprocAttr]) (hsc) ?_
      simp only [WA,simprocAttr,UM, ]
      (try (apply hK';clear hK' K'))
      repeat' (first|(with_reducible apply zz1)|((with_reducible apply zz2);rfl;intro K' hK';simp only [WA,simprocAttr];(repeat (constructor;focus (clear hK';intros;simp_all;done)));(try (apply hK';clear hK' K')))|((with_reducible apply zz3);rfl;all_goals (intro h;try exact absurd h (by decide))))
      (with_reducible refine swp_drawP ?_ ?_ ?_ (⟨⟨[],[]⟩,[],[],[],[]⟩) _ rfl [] 8 0 ([.d (sD s),.d (iD (e : Nat))]) (failV 3 (e : Nat)) [8,9,10,12,13,14] rfl rfl ?_ (fun K' hK' gops fin hgops hfin=>?_)
       · kernel_rfl
       · rfl
       · rfl
       · kernel_rfl
       repeat' first
        | (refine vcX_dead rfl trivial (by simp only [WA,simprocAttr,UX,UA];rfl) (by simp only [List.nil_append,List.cons_append];rfl) (by simp only [zn2];rfl) ?_)
        | (refine vcX_step rfl rfl trivial (by simp only [WA,simprocAttr,UX,UA,hr,List.length_map,hdl,m1,m2,m3,m4,one_max];rfl) ?_ (by simp only [WA,simprocAttr,UX,UA];rfl) (by simp only [WA,simprocAttr,UX,UA];rfl) (by simp only [List.nil_append,List.cons_append];rfl) (by simp only [zn2];rfl) ?_;focus (first | trivial | ((repeat' constructor) <;> first | trivial | assumption | (clear hK' hfin hgops;intros;simp_all;done))))
        | (refine vcX_dead rfl (by (simp only [WA,simprocAttr,UX,UA,hr,List.length_map,hdl,m1,m2,m3,m4,one_max]) <;> (first | trivial | ((repeat' constructor) <;> first | trivial | assumption | (clear hK' hfin hgops;intros;simp_all;done)))) (by simp only [WA,simprocAttr,UX,UA];rfl) (by simp only [List.nil_append,List.cons_append];rfl) (by simp only [zn2];rfl) ?_)
       (refine vcX_nil (by subst hfin;kernel_rfl) (fun e' s' hbs=>?_))
       clear hfin hgops fin gops
       clear hK' K')
      repeat (first | refine kseq_p ?_ | refine kblk_p ?_ | refine kloop_p ?_)
      simp only [KpanS,US,WA,simprocAttr,h0,lk_put_same]
 | comma _ _ _ h hc x b hb hb2 hr he hk =>
  cases hE
  have hc5:=isB_lt hc
  have hsc:=sign_l Γ s hs (wAt s a + (wOf s a).size) hwz 58 58 rfl hc
  have hie:=is_l Γ s hs b hb2 125 125 rfl
  rw [he] at hie
  have hb0:=wAt_in s b hb2
  have hsk : XFn Tryd.prog Γ 135 [.ref 0 0,.d (.v (.int .u8 44))] (rBox s (wAt s b)) (failV 3 (wAt s b : Nat)) (rBox s (wAt s b)):=by
   have:=sign_x Γ s hs (wAt s b) hb0.2 44 44 rfl (by rw [isB_at];exact hk)
   rw [wAt_again] at this
   exact this
  obtain ⟨xk,xso,xnm,xls,xl⟩:=x
  simp only [RdT,Tp.d] at hr
  generalize wAt s (wAt s a + (wOf s a).size) = c2 at *
  generalize wAt s b = e2 at *
  generalize hC : wAt s a = c at *
  generalize hW : wOf s a = w at *
  unfold rBox at hwd hsc hr hie hsk
  rcases bad_cases h with ⟨hnm,hB,hLq⟩ | ⟨hnm,hL,hB⟩ | ⟨hnm,q,hq0,hq1,hB⟩
  · cases hB
  · rw [hnm] at hn
    subst hL
    -- TRACE
    repeat' (first|(with_reducible apply zz1)|((with_reducible apply zz2);rfl;intro K' hK';simp only [WA,simprocAttr];(repeat (constructor;focus (clear hK';intros;simp_all;done)));(try (apply hK';clear hK' K')))|((with_reducible apply zz3);rfl;all_goals (intro h;try exact absurd h (by decide))))
    refine stop_cS rfl (by simp only [UA,WA,simprocAttr]) (hwd) ?_
    simp only [WA,simprocAttr,UM, ]
    (try (apply hK';clear hK' K'))
    repeat' (first|(with_reducible apply zz1)|((with_reducible apply zz2);rfl;intro K' hK';simp only [WA,simprocAttr];(repeat (constructor;focus (clear hK';intros;simp_all;done)));(try (apply hK';clear hK' K')))|((with_reducible apply zz3);rfl;all_goals (intro h;try exact absurd h (by decide))))
    refine stop_callF rfl (by simp only [WA,simprocAttr]) rfl rfl (hn) ?_
    simp only [WA,simprocAttr,inX,dropS,List.map_nil,List.length_nil,List.getD_nil,D_default,false_implies,Bool.false_eq_true,implies_true,Bool.not_true,Bool.not_false,Bool.true_and,Bool.and_true,Bool.false_and,Bool.and_false,Bool.true_or,Bool.or_true,Bool.false_or,Bool.or_false,cond_true,cond_false]
    (repeat (constructor;focus (clear hK';intros;simp_all;done)))
    (try (apply hK';clear hK' K'))
    refine stop_unmetB rfl rfl ?_
    simp only [WA,simprocAttr,List.map_nil,List.length_nil,false_implies,Bool.false_eq_true,implies_true,Bool.not_true,Bool.not_false,Bool.true_and,Bool.and_true,Bool.false_and,Bool.and_false,Bool.true_or,Bool.or_true,Bool.false_or,Bool.or_false,cond_true,cond_false]
    (try (apply hK';clear hK' K'))
    repeat' (first|(with_reducible apply zz1)|((with_reducible apply zz2);rfl;intro K' hK';simp only [WA,simprocAttr,hwr];(repeat (constructor;focus (clear hK';intros;simp_all;done)));(try (apply hK';clear hK' K')))|((with_reducible apply zz3);rfl;all_goals (intro h;try exact absurd h (by decide))))
    refine stop_cS rfl (by simp only [UA,WA,simprocAttr]) (hsc) ?_
    simp only [WA,simprocAttr,UM, ]
    (try (apply hK';clear hK' K'))
    repeat' (first|(with_reducible apply zz1)|((with_reducible apply zz2);rfl;intro K' hK';simp only [WA,simprocAttr];(repeat (constructor;focus (clear hK';intros;simp_all;done)));(try (apply hK';clear hK' K')))|((with_reducible apply zz3);rfl;all_goals (intro h;try exact absurd h (by decide))))
    (with_reducible refine swp_drawX ?_ ?_ ?_ (⟨⟨[],[]⟩,[(8,(0,([.d (sD s),.d (iD (b : Nat))],.agg [iD xk,iD xso,sD xnm,.slc (xls.map sD),.slc (Tp.ds xl)])))],[],[],[]⟩) _ rfl (fun K' hK' gops fin hgops hfin=>?_)
     · kernel_rfl
     · rfl
     · rfl
     repeat' first
      | (refine vcX_dead rfl trivial (by simp only [WA,simprocAttr,UX,UA];rfl) (by simp only [List.nil_append,List.cons_append];rfl) (by simp only [zn2];rfl) ?_)
      | (refine vcX_step rfl rfl trivial (by simp only [WA,simprocAttr,UX,UA,hr,List.length_map,hdl,m1,m2,m3,m4,one_max ];rfl) ?_ (by simp only [WA,simprocAttr,UX,UA];rfl) (by simp only [WA,simprocAttr,UX,UA];rfl) (by simp only [List.nil_append,List.cons_append];rfl) (by simp only [zn2];rfl) ?_;focus (first | trivial | ((repeat' constructor) <;> first | trivial | assumption | (clear hK' hfin hgops;intros;simp_all;done))))
     (refine vcX_nil (by subst hfin;kernel_rfl) ?_)
     clear hfin hgops fin gops
     (try (apply hK';clear hK' K')))
    repeat' (first|(with_reducible apply zz1)|((with_reducible apply zz2);rfl;intro K' hK';simp only [WA,simprocAttr];(repeat (constructor;focus (clear hK';intros;simp_all;done)));(try (apply hK';clear hK' K')))|((with_reducible apply zz3);rfl;all_goals (intro h;try exact absurd h (by decide))))
    refine stop_cS rfl (by simp only [UA,WA,simprocAttr]) (hie) ?_
    simp only [WA,simprocAttr,UM, ]
    (try (apply hK';clear hK' K'))
    repeat' (first|(with_reducible first|apply zw0|apply zw1|apply zw2|apply zw3|apply zw4|apply zw5|apply zw6|apply zw7|apply zw8|apply zw9|apply zw10|apply zw11|apply zw13|apply zw14)|((with_reducible refine zw12 ?_ ?_);rfl)|((with_reducible refine swp_regionX ?_ ?_ (fun K' hK' hP'=>?_));rfl;rfl;simp only [WA,simprocAttr];(repeat (constructor;focus (clear hK' hP';intros;simp_all;done)));(try (apply hK';clear hK' hP';clear K')))|((with_reducible refine zw15 ?_ ?_);rfl;refine ⟨_,rfl,fun h=>?_,fun h=>?_⟩ <;> try exact absurd h (by decide)))
    refine stop_cX rfl (by simp only [UA,WA,simprocAttr]) (hsk) ?_
    simp only [UM,WA,simprocAttr]
    refine hP' _ _ _ ?_
    repeat (first | refine kseq_p ?_ | refine kblk_p ?_ | refine kloop_p ?_)
    simp only [KpanS,US,WA,simprocAttr,h0]
  · rw [hnm] at hn
    have g1 : (0 : Int) < (L.length : Int):=by omega
    have g2 : IntKind.i64.wrap ((L.length : Int) - 1) = ((L.length - 1 : Nat) : Int):=by rw [wrap_in (by omega) (by omega)];omega
    have g3 : ((L.length - 1 : Nat) : Int) < (L.length : Int):=by omega
    have g4 : (0 : Int) ≤ ((L.length - 1 : Nat) : Int):=by omega
    rcases hB with ⟨hle,hB⟩ | ⟨hle,h6⟩
    · cases hB
    · unfold leB at hle
      have h6 : ¬ L.length = 6:=by simpa using h6
      have g6 : ((L.length : Int) == 6) = false:=by simpa using (by omega : (L.length : Int) ≠ 6)
      repeat' (first|(with_reducible apply zz1)|((with_reducible apply zz2);rfl;intro K' hK';simp only [WA,simprocAttr];(repeat (constructor;focus (clear hK';intros;simp_all;done)));(try (apply hK';clear hK' K')))|((with_reducible apply zz3);rfl;all_goals (intro h;try exact absurd h (by decide))))
      refine stop_cS rfl (by simp only [UA,WA,simprocAttr]) (hwd) ?_
      simp only [WA,simprocAttr,UM, ]
      (try (apply hK';clear hK' K'))
      repeat' (first|(with_reducible apply zz1)|((with_reducible apply zz2);rfl;intro K' hK';simp only [WA,simprocAttr];(repeat (constructor;focus (clear hK';intros;simp_all;done)));(try (apply hK';clear hK' K')))|((with_reducible apply zz3);rfl;all_goals (intro h;try exact absurd h (by decide))))
      refine stop_callF rfl (by simp only [WA,simprocAttr]) rfl rfl (hn) ?_
      simp only [WA,simprocAttr,inX,dropS,List.length_map,g1,g2,g3,g4,g6,hq1,hle,Int.toNat_natCast,false_implies,Bool.false_eq_true,implies_true,Bool.not_true,Bool.not_false,Bool.true_and,Bool.and_true,Bool.false_and,Bool.and_false,Bool.true_or,Bool.or_true,Bool.false_or,Bool.or_false,cond_true,cond_false]
      (repeat (constructor;focus (clear hK';intros;simp_all;done)))
      (try (apply hK';clear hK' K'))
      repeat' (first|(with_reducible apply zz1)|((with_reducible apply zz2);rfl;intro K' hK';simp only [WA,simprocAttr,hwr];(repeat (constructor;focus (clear hK';intros;simp_all;done)));(try (apply hK';clear hK' K')))|((with_reducible apply zz3);rfl;all_goals (intro h;try exact absurd h (by decide))))
      refine stop_cS rfl (by simp only [UA,WA,simprocAttr]) (hsc) ?_
      simp only [WA,simprocAttr,UM, ]
      (try (apply hK';clear hK' K'))
      repeat' (first|(with_reducible apply zz1)|((with_reducible apply zz2);rfl;intro K' hK';simp only [WA,simprocAttr];(repeat (constructor;focus (clear hK';intros;simp_all;done)));(try (apply hK';clear hK' K')))|((with_reducible apply zz3);rfl;all_goals (intro h;try exact absurd h (by decide))))
      (with_reducible refine swp_drawX ?_ ?_ ?_ (⟨⟨[],[]⟩,[(8,(0,([.d (sD s),.d (iD (b : Nat))],.agg [iD xk,iD xso,sD xnm,.slc (xls.map sD),.slc (Tp.ds xl)])))],[],[],[]⟩) _ rfl (fun K' hK' gops fin hgops hfin=>?_)
       · kernel_rfl
       · rfl
       · rfl
       repeat' first
        | (refine vcX_dead rfl trivial (by simp only [WA,simprocAttr,UX,UA];rfl) (by simp only [List.nil_append,List.cons_append];rfl) (by simp only [zn2];rfl) ?_)
        | (refine vcX_step rfl rfl trivial (by simp only [WA,simprocAttr,UX,UA,hr,List.length_map,hdl,m1,m2,m3,m4,one_max ];rfl) ?_ (by simp only [WA,simprocAttr,UX,UA];rfl) (by simp only [WA,simprocAttr,UX,UA];rfl) (by simp only [List.nil_append,List.cons_append];rfl) (by simp only [zn2];rfl) ?_;focus (first | trivial | ((repeat' constructor) <;> first | trivial | assumption | (clear hK' hfin hgops;intros;simp_all;done))))
       (refine vcX_nil (by subst hfin;kernel_rfl) ?_)
       clear hfin hgops fin gops
       (try (apply hK';clear hK' K')))
      repeat' (first|(with_reducible apply zz1)|((with_reducible apply zz2);rfl;intro K' hK';simp only [WA,simprocAttr];(repeat (constructor;focus (clear hK';intros;simp_all;done)));(try (apply hK';clear hK' K')))|((with_reducible apply zz3);rfl;all_goals (intro h;try exact absurd h (by decide))))
      refine stop_cS rfl (by simp only [UA,WA,simprocAttr]) (hie) ?_
      simp only [WA,simprocAttr,UM, ]
      (try (apply hK';clear hK' K'))
      repeat' (first|(with_reducible first|apply zw0|apply zw1|apply zw2|apply zw3|apply zw4|apply zw5|apply zw6|apply zw7|apply zw8|apply zw9|apply zw10|apply zw11|apply zw13|apply zw14)|((with_reducible refine zw12 ?_ ?_);rfl)|((with_reducible refine swp_regionX ?_ ?_ (fun K' hK' hP'=>?_));rfl;rfl;simp only [WA,simprocAttr];(repeat (constructor;focus (clear hK' hP';intros;simp_all;done)));(try (apply hK';clear hK' hP';clear K')))|((with_reducible refine zw15 ?_ ?_);rfl;refine ⟨_,rfl,fun h=>?_,fun h=>?_⟩ <;> try exact absurd h (by decide)))
      refine stop_cX rfl (by simp only [UA,WA,simprocAttr]) (hsk) ?_
      simp only [UM,WA,simprocAttr]
      refine hP' _ _ _ ?_
      repeat (first | refine kseq_p ?_ | refine kblk_p ?_ | refine kloop_p ?_)
      simp only [KpanS,US,WA,simprocAttr,h0]
 | more _ _ _ h hc x b hb hb2 hr he hk _ ht =>
  subst hE
  have hc5:=isB_lt hc
  have hsc:=sign_l Γ s hs (wAt s a + (wOf s a).size) hwz 58 58 rfl hc
  have hie:=is_l Γ s hs b hb2 125 125 rfl
  rw [he] at hie
  have hkb:=isB_lt hk
  have hb0:=(wAt_in s b hb2).1
  have hsk : SFn Tryd.prog Γ 135 [.ref 0 0,.d (.v (.int .u8 44))] (rBox s (wAt s b)) (.tup []) (rBox s (wAt s b + 1)):=by
   have:=sign_l Γ s hs (wAt s b) (by omega) 44 44 rfl (by rw [isB_at];exact hk)
   rw [wAt_again] at this
   exact this
  have hlt : a < wAt s b + 1:=by omega
  have hlen6 : L.length + 1 ≤ 6:=by
   rcases bad_cases h with ⟨-,hB, -⟩ | ⟨-,hL, -⟩ | ⟨-,q, -, -,⟨-,hB⟩ | ⟨-,hB⟩⟩
   · cases hB
   · rw [hL];simp
   · cases hB
   · have : ¬ L.length = 6:=by simpa using hB
     omega
  have hds:=ds_app K x
  obtain ⟨xk,xso,xnm,xls,xl⟩:=x
  simp only [RdT,Tp.d] at hr hds
  generalize wAt s (wAt s a + (wOf s a).size) = c2 at *
  generalize wAt s b = e2 at *
  generalize hC : wAt s a = c at *
  generalize hW : wOf s a = w at *
  unfold rBox at hwd hsc hr hie hsk
  rcases bad_cases h with ⟨hnm,hB,hLq⟩ | ⟨hnm,hL,hB⟩ | ⟨hnm,q,hq0,hq1,hB⟩
  · cases hB
  · rw [hnm] at hn
    subst hL
    -- TRACE
    repeat' (first|(with_reducible apply zz1)|((with_reducible apply zz2);rfl;intro K' hK';simp only [WA,simprocAttr];(repeat (constructor;focus (clear hK';intros;simp_all;done)));(try (apply hK';clear hK' K')))|((with_reducible apply zz3);rfl;all_goals (intro h;try exact absurd h (by decide))))
    refine stop_cS rfl (by simp only [UA,WA,simprocAttr]) (hwd) ?_
    simp only [WA,simprocAttr,UM, ]
    (try (apply hK';clear hK' K'))
    repeat' (first|(with_reducible apply zz1)|((with_reducible apply zz2);rfl;intro K' hK';simp only [WA,simprocAttr];(repeat (constructor;focus (clear hK';intros;simp_all;done)));(try (apply hK';clear hK' K')))|((with_reducible apply zz3);rfl;all_goals (intro h;try exact absurd h (by decide))))
    refine stop_callF rfl (by simp only [WA,simprocAttr]) rfl rfl (hn) ?_
    simp only [WA,simprocAttr,inX,dropS,List.map_nil,List.length_nil,List.getD_nil,D_default,false_implies,Bool.false_eq_true,implies_true,Bool.not_true,Bool.not_false,Bool.true_and,Bool.and_true,Bool.false_and,Bool.and_false,Bool.true_or,Bool.or_true,Bool.false_or,Bool.or_false,cond_true,cond_false]
    (repeat (constructor;focus (clear hK';intros;simp_all;done)))
    (try (apply hK';clear hK' K'))
    refine stop_unmetB rfl rfl ?_
    simp only [WA,simprocAttr,List.map_nil,List.length_nil,false_implies,Bool.false_eq_true,implies_true,Bool.not_true,Bool.not_false,Bool.true_and,Bool.and_true,Bool.false_and,Bool.and_false,Bool.true_or,Bool.or_true,Bool.false_or,Bool.or_false,cond_true,cond_false]
    (try (apply hK';clear hK' K'))
    repeat' (first|(with_reducible apply zz1)|((with_reducible apply zz2);rfl;intro K' hK';simp only [WA,simprocAttr,hwr];(repeat (constructor;focus (clear hK';intros;simp_all;done)));(try (apply hK';clear hK' K')))|((with_reducible apply zz3);rfl;all_goals (intro h;try exact absurd h (by decide))))
    refine stop_cS rfl (by simp only [UA,WA,simprocAttr]) (hsc) ?_
    simp only [WA,simprocAttr,UM, ]
    (try (apply hK';clear hK' K'))
    repeat' (first|(with_reducible apply zz1)|((with_reducible apply zz2);rfl;intro K' hK';simp only [WA,simprocAttr];(repeat (constructor;focus (clear hK';intros;simp_all;done)));(try (apply hK';clear hK' K')))|((with_reducible apply zz3);rfl;all_goals (intro h;try exact absurd h (by decide))))
    (with_reducible refine swp_drawX ?_ ?_ ?_ (⟨⟨[],[]⟩,[(8,(0,([.d (sD s),.d (iD (b : Nat))],.agg [iD xk,iD xso,sD xnm,.slc (xls.map sD),.slc (Tp.ds xl)])))],[],[],[]⟩) _ rfl (fun K' hK' gops fin hgops hfin=>?_)
     · kernel_rfl
     · rfl
     · rfl
     repeat' first
      | (refine vcX_dead rfl trivial (by simp only [WA,simprocAttr,UX,UA];rfl) (by simp only [List.nil_append,List.cons_append];rfl) (by simp only [zn2];rfl) ?_)
      | (refine vcX_step rfl rfl trivial (by simp only [WA,simprocAttr,UX,UA,hr,List.length_map,hdl,m1,m2,m3,m4,one_max ];rfl) ?_ (by simp only [WA,simprocAttr,UX,UA];rfl) (by simp only [WA,simprocAttr,UX,UA];rfl) (by simp only [List.nil_append,List.cons_append];rfl) (by simp only [zn2];rfl) ?_;focus (first | trivial | ((repeat' constructor) <;> first | trivial | assumption | (clear hK' hfin hgops;intros;simp_all;done))))
     (refine vcX_nil (by subst hfin;kernel_rfl) ?_)
     clear hfin hgops fin gops
     (try (apply hK';clear hK' K')))
    repeat' (first|(with_reducible apply zz1)|((with_reducible apply zz2);rfl;intro K' hK';simp only [WA,simprocAttr];(repeat (constructor;focus (clear hK';intros;simp_all;done)));(try (apply hK';clear hK' K')))|((with_reducible apply zz3);rfl;all_goals (intro h;try exact absurd h (by decide))))
    refine stop_cS rfl (by simp only [UA,WA,simprocAttr]) (hie) ?_
    simp only [WA,simprocAttr,UM, ]
    (try (apply hK';clear hK' K'))
    repeat' (first|(with_reducible apply zz1)|((with_reducible apply zz2);rfl;intro K' hK';simp only [WA,simprocAttr];(repeat (constructor;focus (clear hK';intros;simp_all;done)));(try (apply hK';clear hK' K')))|((with_reducible apply zz3);rfl;all_goals (intro h;try exact absurd h (by decide))))
    refine stop_cS rfl (by simp only [UA,WA,simprocAttr]) (hsk) ?_
    simp only [WA,simprocAttr,UM, ]
    (try (apply hK';clear hK' K'))
    repeat' (first|(with_reducible apply zz1)|((with_reducible apply zz2);rfl;intro K' hK';simp only [WA,simprocAttr];(repeat (constructor;focus (clear hK';intros;simp_all;done)));(try (apply hK';clear hK' K')))|((with_reducible apply zz3);rfl;all_goals (intro h;try exact absurd h (by decide))))
    refine ⟨((_,_),_),⟨hkb,by simp only [List.length_append,List.length_cons,List.length_nil] at hlen6 ⊢;exact hlen6,by simp only [List.length_append,List.length_cons,List.length_nil] at hKL ⊢;rw [hKL],ht⟩,(by show s.size - (e2 + 1) < s.size - a;omega),?_⟩
    refine sub_of h0 ?_ ?_ ?_ <;> simp only [US,WA,simprocAttr,hds,List.map_append,List.map_cons,List.map_nil]
  · rw [hnm] at hn
    have g1 : (0 : Int) < (L.length : Int):=by omega
    have g2 : IntKind.i64.wrap ((L.length : Int) - 1) = ((L.length - 1 : Nat) : Int):=by rw [wrap_in (by omega) (by omega)];omega
    have g3 : ((L.length - 1 : Nat) : Int) < (L.length : Int):=by omega
    have g4 : (0 : Int) ≤ ((L.length - 1 : Nat) : Int):=by omega
    rcases hB with ⟨hle,hB⟩ | ⟨hle,h6⟩
    · cases hB
    · unfold leB at hle
      have h6 : ¬ L.length = 6:=by simpa using h6
      have g6 : ((L.length : Int) == 6) = false:=by simpa using (by omega : (L.length : Int) ≠ 6)
      repeat' (first|(with_reducible apply zz1)|((with_reducible apply zz2);rfl;intro K' hK';simp only [WA,simprocAttr];(repeat (constructor;focus (clear hK';intros;simp_all;done)));(try (apply hK';clear hK' K')))|((with_reducible apply zz3);rfl;all_goals (intro h;try exact absurd h (by decide))))
      refine stop_cS rfl (by simp only [UA,WA,simprocAttr]) (hwd) ?_
      simp only [WA,simprocAttr,UM, ]
      (try (apply hK';clear hK' K'))
      repeat' (first|(with_reducible apply zz1)|((with_reducible apply zz2);rfl;intro K' hK';simp only [WA,simprocAttr];(repeat (constructor;focus (clear hK';intros;simp_all;done)));(try (apply hK';clear hK' K')))|((with_reducible apply zz3);rfl;all_goals (intro h;try exact absurd h (by decide))))
      refine stop_callF rfl (by simp only [WA,simprocAttr]) rfl rfl (hn) ?_
      simp only [WA,simprocAttr,inX,dropS,List.length_map,g1,g2,g3,g4,g6,hq1,hle,Int.toNat_natCast,false_implies,Bool.false_eq_true,implies_true,Bool.not_true,Bool.not_false,Bool.true_and,Bool.and_true,Bool.false_and,Bool.and_false,Bool.true_or,Bool.or_true,Bool.false_or,Bool.or_false,cond_true,cond_false]
      (repeat (constructor;focus (clear hK';intros;simp_all;done)))
      (try (apply hK';clear hK' K'))
      repeat' (first|(with_reducible apply zz1)|((with_reducible apply zz2);rfl;intro K' hK';simp only [WA,simprocAttr,hwr];(repeat (constructor;focus (clear hK';intros;simp_all;done)));(try (apply hK';clear hK' K')))|((with_reducible apply zz3);rfl;all_goals (intro h;try exact absurd h (by decide))))
      refine stop_cS rfl (by simp only [UA,WA,simprocAttr]) (hsc) ?_
      simp only [WA,simprocAttr,UM, ]
      (try (apply hK';clear hK' K'))
      repeat' (first|(with_reducible apply zz1)|((with_reducible apply zz2);rfl;intro K' hK';simp only [WA,simprocAttr];(repeat (constructor;focus (clear hK';intros;simp_all;done)));(try (apply hK';clear hK' K')))|((with_reducible apply zz3);rfl;all_goals (intro h;try exact absurd h (by decide))))
      (with_reducible refine swp_drawX ?_ ?_ ?_ (⟨⟨[],[]⟩,[(8,(0,([.d (sD s),.d (iD (b : Nat))],.agg [iD xk,iD xso,sD xnm,.slc (xls.map sD),.slc (Tp.ds xl)])))],[],[],[]⟩) _ rfl (fun K' hK' gops fin hgops hfin=>?_)
       · kernel_rfl
       · rfl
       · rfl
       repeat' first
        | (refine vcX_dead rfl trivial (by simp only [WA,simprocAttr,UX,UA];rfl) (by simp only [List.nil_append,List.cons_append];rfl) (by simp only [zn2];rfl) ?_)
        | (refine vcX_step rfl rfl trivial (by simp only [WA,simprocAttr,UX,UA,hr,List.length_map,hdl,m1,m2,m3,m4,one_max ];rfl) ?_ (by simp only [WA,simprocAttr,UX,UA];rfl) (by simp only [WA,simprocAttr,UX,UA];rfl) (by simp only [List.nil_append,List.cons_append];rfl) (by simp only [zn2];rfl) ?_;focus (first | trivial | ((repeat' constructor) <;> first | trivial | assumption | (clear hK' hfin hgops;intros;simp_all;done))))
       (refine vcX_nil (by subst hfin;kernel_rfl) ?_)
       clear hfin hgops fin gops
       (try (apply hK';clear hK' K')))
      repeat' (first|(with_reducible apply zz1)|((with_reducible apply zz2);rfl;intro K' hK';simp only [WA,simprocAttr];(repeat (constructor;focus (clear hK';intros;simp_all;done)));(try (apply hK';clear hK' K')))|((with_reducible apply zz3);rfl;all_goals (intro h;try exact absurd h (by decide))))
      refine stop_cS rfl (by simp only [UA,WA,simprocAttr]) (hie) ?_
      simp only [WA,simprocAttr,UM, ]
      (try (apply hK';clear hK' K'))
      repeat' (first|(with_reducible apply zz1)|((with_reducible apply zz2);rfl;intro K' hK';simp only [WA,simprocAttr];(repeat (constructor;focus (clear hK';intros;simp_all;done)));(try (apply hK';clear hK' K')))|((with_reducible apply zz3);rfl;all_goals (intro h;try exact absurd h (by decide))))
      refine stop_cS rfl (by simp only [UA,WA,simprocAttr]) (hsk) ?_
      simp only [WA,simprocAttr,UM, ]
      (try (apply hK';clear hK' K'))
      repeat' (first|(with_reducible apply zz1)|((with_reducible apply zz2);rfl;intro K' hK';simp only [WA,simprocAttr];(repeat (constructor;focus (clear hK';intros;simp_all;done)));(try (apply hK';clear hK' K')))|((with_reducible apply zz3);rfl;all_goals (intro h;try exact absurd h (by decide))))
      refine ⟨((_,_),_),⟨hkb,by simp only [List.length_append,List.length_cons,List.length_nil] at hlen6 ⊢;exact hlen6,by simp only [List.length_append,List.length_cons,List.length_nil] at hKL ⊢;rw [hKL],ht⟩,(by show s.size - (e2 + 1) < s.size - a;omega),?_⟩
      refine sub_of h0 ?_ ?_ ?_ <;> simp only [US,WA,simprocAttr,hds,List.map_append,List.map_cons,List.map_nil]
end Go.Proofs.YtdcplkefmpjppaaDoor.GG
