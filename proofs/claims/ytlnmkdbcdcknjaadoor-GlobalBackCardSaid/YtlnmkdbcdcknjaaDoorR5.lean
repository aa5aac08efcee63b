/- global's reader: choices; a symbolic walk (printed by mkr5.py). -/
-- TYPESA
import Derived.Test.YtlnmkdbcdcknjaaDoorR4
set_option linter.unusedVariables false
set_option linter.unusedSimpArgs false
namespace Go.Proofs.YtlnmkdbcdcknjaaDoor.GG
open Go.RowKit Go.Sw
open Nat renaming reduceAdd → zn2
open Go.Sw renaming swp_seq → zw0, swp_block → zw1, kseq_n → zw6

inductive Rg where
 | ok (x : Gt) (b : Nat)
 | no (b : Nat)
def RdG (Γ : Gl) (s : ByteArray) (f : FuncId) (more : List SV) (a : Nat) : Rg → Prop
 | .ok x b=>SFn Tryd.prog Γ f (.ref 0 0 :: more) (rBox s a) (.d x.d) (rBox s b)
 | .no b=>XFn Tryd.prog Γ f (.ref 0 0 :: more) (rBox s a) (failG 3 (b : Nat)) (rBox s b)
theorem skip_againG : ∀ l : List UInt8,skipB (l.drop (skipB l)) = 0
 | []=>rfl
 | c :: l=>by
  by_cases h : c.toNat = 32
  · have e : skipB (c :: l) = skipB l + 1:=by rw [skipB,if_pos h]
    rw [e,List.drop_succ_cons]
    exact skip_againG l
  · have e : skipB (c :: l) = 0:=by rw [skipB,if_neg h]
    rw [e,List.drop_zero,e]
theorem gis_l (Γ : Gl) (s : ByteArray) (hs : s.size ≤ 2000) (a : Nat) (ha : a ≤ s.size) (c : Nat) (i : Int) (hi : (c : Int) = i) : SFn Tryd.prog Γ 23 [.ref 0 0,.d (.v (.int .u8 i))] (rBox s a) (.d (.v (.bool (isB s a c)))) (rBox s (wAt s a)):=by
 subst hi;exact gis_fn Γ s hs a ha c
theorem gsign_l (Γ : Gl) (s : ByteArray) (hs : s.size ≤ 2000) (a : Nat) (ha : a ≤ s.size) (c : Nat) (i : Int) (hi : (c : Int) = i) (h : isB s a c = true) : SFn Tryd.prog Γ 41 [.ref 0 0,.d (.v (.int .u8 i))] (rBox s a) (.tup []) (rBox s (wAt s a + 1)):=by
 subst hi;exact gsign_ok Γ s hs a ha c h
theorem gsign_x (Γ : Gl) (s : ByteArray) (hs : s.size ≤ 2000) (a : Nat) (ha : a ≤ s.size) (c : Nat) (i : Int) (hi : (c : Int) = i) (h : isB s a c = false) : XFn Tryd.prog Γ 41 [.ref 0 0,.d (.v (.int .u8 i))] (rBox s a) (failG 3 (wAt s a : Nat)) (rBox s (wAt s a)):=by
 subst hi;exact gsign_no Γ s hs a ha c h
theorem wAt_againG (s : ByteArray) (a : Nat) : wAt s (wAt s a) = wAt s a:=by
 unfold wAt
 rw [← List.drop_drop,skip_againG]
 rfl
theorem isB_ltG {s : ByteArray} {a c : Nat} (h : isB s a c = true) : wAt s a < s.size:=by
 unfold isB at h
 split at h
 · assumption
 · cases h
theorem isB_atG {s : ByteArray} {a c : Nat} : isB s (wAt s a) c = isB s a c:=by
 unfold isB
 rw [wAt_againG]
theorem wOf_inG (s : ByteArray) (a : Nat) (ha : a ≤ s.size) : wAt s a + (wOf s a).size ≤ s.size:=by
 have h1:=(wAt_in s a ha).2
 have h2 : (wOf s a).size ≤ (s.extract (wAt s a) s.size).size:=by
  unfold wOf wordL
  rw [ByteArray.size_extract];omega
 rw [ByteArray.size_extract] at h2
 omega
inductive CLp (Γ : Gl) (s : ByteArray) : List ByteArray → List Gt → Nat → Option (List ByteArray × List Gt) → Nat → Prop
 | bad (L : List ByteArray) (K : List Gt) (a : Nat) (h : okL L (wOf s a) = false) : CLp Γ s L K a none (wAt s a)
 | colon (L : List ByteArray) (K : List Gt) (a : Nat) (h : okL L (wOf s a) = true) (hc : isB s (wAt s a + (wOf s a).size) 58 = false) : CLp Γ s L K a none (wAt s (wAt s a + (wOf s a).size))
 | one (L : List ByteArray) (K : List Gt) (a : Nat) (h : okL L (wOf s a) = true) (hc : isB s (wAt s a + (wOf s a).size) 58 = true) (b : Nat) (hr : RdG Γ s 22 [] (wAt s (wAt s a + (wOf s a).size) + 1) (.no b)) : CLp Γ s L K a none b
 | fin (L : List ByteArray) (K : List Gt) (a : Nat) (h : okL L (wOf s a) = true) (hc : isB s (wAt s a + (wOf s a).size) 58 = true) (x : Gt) (b : Nat) (hb : a ≤ b) (hb2 : b ≤ s.size) (hr : RdG Γ s 22 [] (wAt s (wAt s a + (wOf s a).size) + 1) (.ok x b)) (hk : isB s b 44 = false) (he : isB s b 125 = false) : CLp Γ s L K a none (wAt s b)
 | done (L : List ByteArray) (K : List Gt) (a : Nat) (h : okL L (wOf s a) = true) (hc : isB s (wAt s a + (wOf s a).size) 58 = true) (x : Gt) (b : Nat) (hb : a ≤ b) (hb2 : b ≤ s.size) (hr : RdG Γ s 22 [] (wAt s (wAt s a + (wOf s a).size) + 1) (.ok x b)) (hk : isB s b 44 = false) (he : isB s b 125 = true) : CLp Γ s L K a (some (L ++ [wOf s a],K ++ [x])) (wAt s b + 1)
 | more (L : List ByteArray) (K : List Gt) (a : Nat) (h : okL L (wOf s a) = true) (hc : isB s (wAt s a + (wOf s a).size) 58 = true) (x : Gt) (b : Nat) (hb : a ≤ b) (hb2 : b ≤ s.size) (hr : RdG Γ s 22 [] (wAt s (wAt s a + (wOf s a).size) + 1) (.ok x b)) (hk : isB s b 44 = true) (R : Option (List ByteArray × List Gt)) (e : Nat) (ht : CLp Γ s (L ++ [wOf s a]) (K ++ [x]) (wAt s b + 1) R e) : CLp Γ s L K a R e
theorem gds_app : ∀ (K : List Gt) (x : Gt),Gt.ds (K ++ [x]) = Gt.ds K ++ [x.d]
 | [],x=>by simp [Gt.ds]
 | y :: K,x=>by simp [Gt.ds,gds_app K x]
theorem okL_six {L : List ByteArray} {w : ByteArray} (h : okL L w = true) : L.length + 1 ≤ 6:=by
 unfold okL at h
 cases h1 : isNameB w with
 | false=>rw [h1] at h;cases h
 | true =>
  rw [h1,cond_true] at h
  by_cases h6 : L.length < 6
  · omega
  · rw [decide_eq_false h6] at h;cases h
abbrev gCs (fr to : ByteArray) (x y : SV) : List SV:=[.d (iD 6),.d (sD fr),.d (sD to),.d (iD 0),.d (sD ⟨#[]⟩),x,y]
theorem gget_last (K : List Gt) (z : D) : (Gt.ds K ++ [z]).getD K.length default = z:=by
 rw [← Gt.ds_len K];simp [List.getD]
theorem gset_last (K : List Gt) (z y : D) : (Gt.ds K ++ [z]).set K.length y = Gt.ds K ++ [y]:=by
 rw [← Gt.ds_len K,List.set_append_right _ _ (Nat.le_refl _),Nat.sub_self];rfl
set_option maxHeartbeats 16000000 in
set_option maxRecDepth 100000 in
theorem gchoice_ok (Γ : Gl) (s : ByteArray) (hs : s.size ≤ 2000) (fr to : ByteArray) (a0 : Nat) (ha0 : a0 ≤ s.size) (L1 : List ByteArray) (K1 : List Gt) (e : Nat) (hp0 : CLp Γ s [] [] a0 (some (L1,K1)) e) : SFn Tryd.prog Γ 44 [.ref 0 0,.ref 1 0] [(0,.cells [.d (sD s),.d (iD (a0 : Nat))]),(1,.cells (gCs fr to .nil .nil))] (.tup []) [(0,.cells [.d (sD s),.d (iD (e : Nat))]),(1,.cells (gCs fr to (.d (.slc (L1.map sD))) (.d (.slc (Gt.ds K1)))))]:=by
 refine sfn_of_swp (N:=55) Tryd.func44 rfl (by decide) rfl rfl (by simp) (fun C h0=>?_)
 simp only [argS]
 repeat' (first|(with_reducible apply zz1)|((with_reducible apply zz2);rfl;intro K' hK';simp only [WA,simprocAttr];(repeat (constructor;focus (clear hK';intros;simp_all;done)));(try (apply hK';clear hK' K')))|((with_reducible apply zz3);rfl;all_goals (intro h;try exact absurd h (by decide))))
 refine swp_nilB 1 5 3 1 rfl rfl rfl (by decide) ?_
 simp only [WA,simprocAttr]
 refine swp_nilB 1 6 4 7 rfl rfl rfl (by decide) ?_
 simp only [WA,simprocAttr]
 refine swp_loop (α := (List ByteArray × List Gt) × Nat) (fun p=>[(0,.ref 0 0),(3,.ref 2 0)]) (fun p=>[(0,.cells [.d (sD s),.d (iD (p.2 : Nat))]),(1,.cells (gCs fr to (.own 3) (.own 4))),(2,.cells [.ref 1 0]),(3,.row 1 (p.1.1.map sD)),(4,.row 7 (Gt.ds p.1.2))])
  (fun p=>p.2 ≤ s.size ∧ p.1.1.length ≤ 6 ∧ p.1.2.length = p.1.1.length ∧ CLp Γ s p.1.1 p.1.2 p.2 (some (L1,K1)) e) (fun p=>s.size - p.2) (([],[]),a0) ⟨ha0,Nat.zero_le _,rfl,hp0⟩ (by simp only [List.map_nil,Gt.ds];refine sub_of h0 ?_ ?_ ?_ <;> simp only [US,WA,simprocAttr]) (fun p hp=>?_)
 obtain ⟨⟨L,K⟩,a⟩:=p
 obtain ⟨ha,hL6,hKL,hp⟩:=hp
 simp only at ha hL6 hKL hp ⊢
 have hdl:=Gt.ds_len K
 have hrl:=right_label Γ 6 fr to 0 ⟨#[]⟩ L (by omega) (Gt.ds K) (wOf s a)
 obtain ⟨hk1,hk2⟩:=wAt_in s a ha
 have hwz:=wOf_inG s a ha
 have m1 : (L.length + 1) * 16 ≤ 140737488355328:=by omega
 have m2 : L.length + 1 ≤ maxLen:=by unfold maxLen;omega
 have m3 : (K.length + 1) * 112 ≤ 140737488355328:=by omega
 have m4 : K.length + 1 ≤ maxLen:=by unfold maxLen;omega
 have hi0 : (0 : Int) ≤ (K.length : Int):=by omega
 have hi1 : (K.length : Int) < ((K.length + 1 : Nat) : Int):=by omega
 clear hp0
 cases hp with
 | done _ _ _ h hc x b hb hb2 hr hk he =>
  have hwd:=gword_ok Γ s hs a ha _ _ (h ▸ hrl)
  have hc5:=isB_ltG hc
  have hsc:=gsign_l Γ s hs (wAt s a + (wOf s a).size) hwz 58 58 rfl hc
  have hie:=gis_l Γ s hs b hb2 44 44 rfl
  rw [hk] at hie
  obtain ⟨xk,xfr,xto,xso,xnm,xls,xl⟩:=x
  have hds:=gds_app K (.mk xk xfr xto xso xnm xls xl)
  simp only [RdG,Gt.d] at hr hds
  have hsk : ∀ c : Nat,isB s b c = true → SFn Tryd.prog Γ 41 [.ref 0 0,.d (.v (.int .u8 (c : Int)))] (rBox s (wAt s b)) (.tup []) (rBox s (wAt s b + 1)):=fun c h=>by
   have:=gsign_l Γ s hs (wAt s b) (wAt_in s b hb2).2 c c rfl (by rw [isB_atG];exact h)
   rw [wAt_againG] at this
   exact this
  have hsx : ∀ c : Nat,isB s b c = false → XFn Tryd.prog Γ 41 [.ref 0 0,.d (.v (.int .u8 (c : Int)))] (rBox s (wAt s b)) (failG 3 (wAt s b : Nat)) (rBox s (wAt s b)):=fun c h=>by
   have:=gsign_x Γ s hs (wAt s b) (wAt_in s b hb2).2 c c rfl (by rw [isB_atG];exact h)
   rw [wAt_againG] at this
   exact this
  have hb0:=(wAt_in s b hb2).1
  have hse:=hsk 125 he
  generalize wAt s (wAt s a + (wOf s a).size) = c2 at *
  generalize wAt s b = e2 at *
  generalize hC : wAt s a = c at *
  generalize hW : wOf s a = w at *
  unfold rBox at hwd hsc hr hie hse
  refine zw1 ?_
  refine zw0 ?_
  (with_reducible refine swp_drawX ?_ ?_ ?_ (⟨⟨[],[]⟩,[],[],[],[],[(7,(0,([.d (sD s),.d (iD ((c + w.size : Nat) : Int))],sD w,[2,1,3,4])))]⟩) _ rfl (fun K' hK' gops fin hgops hfin=>?_)
   · kernel_rfl
   · rfl
   · rfl
   repeat' first
    | (refine vcX_dead rfl trivial (by simp only [WA,simprocAttr,UX,UA];rfl) (by simp only [List.nil_append,List.cons_append];rfl) (by simp only [zn2];rfl) ?_)
    | (refine vcX_step rfl rfl trivial (by simp only [WA,simprocAttr,UX,UA,hwd,List.length_map,m1,m2 ];rfl) ?_ (by simp only [WA,simprocAttr,UX,UA];rfl) (by simp only [WA,simprocAttr,UX,UA];rfl) (by simp only [List.nil_append,List.cons_append];rfl) (by simp only [zn2];rfl) ?_;focus (first | trivial | ((repeat' apply And.intro) <;> first | trivial | assumption | (clear hK' hfin hgops;intros;simp_all;done))))
   (refine vcX_nil (by subst hfin;kernel_rfl) ?_)
   clear hfin hgops fin gops
   (try (apply hK';clear hK' K')))
  repeat' (first|(with_reducible apply zz1)|((with_reducible apply zz2);rfl;intro K' hK';simp only [WA,simprocAttr];(repeat (constructor;focus (clear hK';intros;simp_all;done)));(try (apply hK';clear hK' K')))|((with_reducible apply zz3);rfl;all_goals (intro h;try exact absurd h (by decide))))
  refine stop_cS rfl (by simp only [UA,WA,simprocAttr]) (hsc) ?_
  simp only [WA,simprocAttr,UM, ]
  (try (apply hK';clear hK' K'))
  refine zw6 ?_
  refine zw0 ?_
  refine swp_midK [(0,.ref 0 0),(3,.ref 2 0)] [(0,.cells [.d (sD s),.d (iD (b : Nat))]),(1,.cells (gCs fr to (.own 3) (.own 4))),(2,.cells [.ref 1 0]),(3,.row 1 (L.map sD ++ [sD w])),(4,.row 7 (Gt.ds K ++ [.agg [iD xk,sD xfr,sD xto,iD xso,sD xnm,.slc (xls.map sD),.slc (Gt.ds xl)]]))] ?_ ?_
  · refine zw0 ?_
    refine swp_any (by kernel_rfl) (fun K' hK' hP'=>?_)
    clear hP'
    refine any_all (rs:=[0]) (by kernel_rfl) (by simp) (fun i hi=>?_)
    simp only [List.mem_cons,List.not_mem_nil,or_false] at hi
    subst hi
    refine ⟨_,rfl,rfl,?_⟩
    refine aop_step rfl rfl (by simp only [WA,simprocAttr];rfl) ?_ ?_
    · (repeat (refine And.intro ?_ ?_)) <;> first | trivial | (simp_all;done)
    simp only [WA,simprocAttr]
    refine any_all (rs:=[1,2]) (by kernel_rfl) (by simp) (fun i hi=>?_)
    simp only [List.mem_cons,List.not_mem_nil,or_false] at hi
    rcases hi with rfl | rfl
    · refine ⟨_,rfl,rfl,?_⟩
      refine aop_step rfl rfl (by simp only [WA,simprocAttr];rfl) ?_ ?_
      · (repeat (refine And.intro ?_ ?_)) <;> first | trivial | (simp_all;done)
      simp only [WA,simprocAttr]
      refine any_all (rs:=[2]) (by kernel_rfl) (by simp) (fun i hi=>?_)
      simp only [List.mem_cons,List.not_mem_nil,or_false] at hi
      subst hi
      refine ⟨_,rfl,rfl,?_⟩
      refine aop_step rfl rfl (by simp only [WA,simprocAttr];rfl) ?_ ?_
      · (repeat (refine And.intro ?_ ?_)) <;> first | trivial | (simp_all;done)
      simp only [WA,simprocAttr]
      refine any_all (rs:=[3]) (by kernel_rfl) (by simp) (fun i hi=>?_)
      simp only [List.mem_cons,List.not_mem_nil,or_false] at hi
      subst hi
      refine ⟨_,rfl,rfl,?_⟩
      refine aop_step rfl rfl (by simp only [WA,simprocAttr];rfl) ?_ ?_
      · (repeat (refine And.intro ?_ ?_)) <;> first | trivial | (simp_all;done)
      simp only [WA,simprocAttr]
      refine any_done (by kernel_rfl) ?_
      refine hK' _ _ ?_
      clear hK' K'
      repeat' (first|(with_reducible apply zz1)|((with_reducible apply zz2);rfl;intro K' hK';simp only [WA,simprocAttr];(repeat (constructor;focus (clear hK';intros;simp_all;done)));(try (apply hK';clear hK' K')))|((with_reducible apply zz3);rfl;all_goals (intro h;try exact absurd h (by decide))))
      (with_reducible refine swp_drawX ?_ ?_ ?_ (⟨⟨[],[]⟩,[(6,(0,([.d (sD s),.d (iD (b : Nat))],.agg [iD xk,sD xfr,sD xto,iD xso,sD xnm,.slc (xls.map sD),.slc (Gt.ds xl)])))],[],[],[],[]⟩) _ rfl (fun K' hK' gops fin hgops hfin=>?_)
       · kernel_rfl
       · rfl
       · rfl
       repeat' first
        | (refine vcX_dead rfl trivial (by simp only [WA,simprocAttr,UX,UA];rfl) (by simp only [List.nil_append,List.cons_append];rfl) (by simp only [zn2];rfl) ?_)
        | (refine vcX_step rfl rfl trivial (by simp only [WA,simprocAttr,UX,UA,hr,List.length_map,hdl,m3,m4,one_max ];rfl) ?_ (by simp only [WA,simprocAttr,UX,UA];rfl) (by simp only [WA,simprocAttr,UX,UA];rfl) (by simp only [List.nil_append,List.cons_append];rfl) (by simp only [zn2];rfl) ?_;focus (first | trivial | ((repeat' apply And.intro) <;> first | trivial | assumption | (clear hK' hfin hgops;intros;simp_all;done))))
       (refine vcX_nil (by subst hfin;kernel_rfl) ?_)
       clear hfin hgops fin gops
       (try (apply hK';clear hK' K')))
      refine ⟨rfl,?_⟩
      refine sub_of h0 ?_ ?_ ?_ <;> simp only [US,WA,simprocAttr]
    · refine ⟨_,rfl,rfl,?_⟩
      refine aop_step rfl rfl (by simp only [WA,simprocAttr];rfl) ?_ ?_
      · (repeat (refine And.intro ?_ ?_)) <;> first | trivial | (simp_all;done)
      simp only [WA,simprocAttr]
      refine any_all (rs:=[1]) (by kernel_rfl) (by simp) (fun i hi=>?_)
      simp only [List.mem_cons,List.not_mem_nil,or_false] at hi
      subst hi
      refine ⟨_,rfl,rfl,?_⟩
      refine aop_step rfl rfl (by simp only [WA,simprocAttr];rfl) ?_ ?_
      · (repeat (refine And.intro ?_ ?_)) <;> first | trivial | (simp_all;done)
      simp only [WA,simprocAttr]
      refine any_all (rs:=[3]) (by kernel_rfl) (by simp) (fun i hi=>?_)
      simp only [List.mem_cons,List.not_mem_nil,or_false] at hi
      subst hi
      refine ⟨_,rfl,rfl,?_⟩
      refine aop_step rfl rfl (by simp only [WA,simprocAttr];rfl) ?_ ?_
      · (repeat (refine And.intro ?_ ?_)) <;> first | trivial | (simp_all;done)
      simp only [WA,simprocAttr]
      refine any_done (by kernel_rfl) ?_
      refine hK' _ _ ?_
      clear hK' K'
      repeat' (first|(with_reducible apply zz1)|((with_reducible apply zz2);rfl;intro K' hK';simp only [WA,simprocAttr];(repeat (constructor;focus (clear hK';intros;simp_all;done)));(try (apply hK';clear hK' K')))|((with_reducible apply zz3);rfl;all_goals (intro h;try exact absurd h (by decide))))
      (with_reducible refine swp_drawX ?_ ?_ ?_ (⟨⟨[],[]⟩,[(5,(0,([.d (sD s),.d (iD (b : Nat))],.agg [iD xk,sD xfr,sD xto,iD xso,sD xnm,.slc (xls.map sD),.slc (Gt.ds xl)])))],[],[],[],[]⟩) _ rfl (fun K' hK' gops fin hgops hfin=>?_)
       · kernel_rfl
       · rfl
       · rfl
       repeat' first
        | (refine vcX_dead rfl trivial (by simp only [WA,simprocAttr,UX,UA];rfl) (by simp only [List.nil_append,List.cons_append];rfl) (by simp only [zn2];rfl) ?_)
        | (refine vcX_step rfl rfl trivial (by simp only [WA,simprocAttr,UX,UA,hr,List.length_map,hdl,m3,m4,one_max ];rfl) ?_ (by simp only [WA,simprocAttr,UX,UA];rfl) (by simp only [WA,simprocAttr,UX,UA];rfl) (by simp only [List.nil_append,List.cons_append];rfl) (by simp only [zn2];rfl) ?_;focus (first | trivial | ((repeat' apply And.intro) <;> first | trivial | assumption | (clear hK' hfin hgops;intros;simp_all;done))))
       (refine vcX_nil (by subst hfin;kernel_rfl) ?_)
       clear hfin hgops fin gops
       (try (apply hK';clear hK' K')))
      repeat' (first|(with_reducible apply zz1)|((with_reducible apply zz2);rfl;intro K' hK';simp only [WA,simprocAttr,Int.toNat_natCast,hi1,hi0,hdl,List.length_append];(repeat (constructor;focus (clear hK';intros;simp_all;done)));(try (apply hK';clear hK' K')))|((with_reducible apply zz3);rfl;all_goals (intro h;try exact absurd h (by decide))))
      refine stop_sE rfl (by simp only [WA,simprocAttr,storeE,setE,dAll,Option.map_some,gget_last,gset_last];rfl) ?_ ?_
      · first | trivial | ((repeat' apply And.intro) <;> first | trivial | assumption | (clear hK';intros;simp_all;done))
      simp only [WA,simprocAttr,gget_last,gset_last]
      (repeat (constructor;focus (clear hK';intros;simp_all;done)))
      (try (apply hK';clear hK' K'))
      refine ⟨rfl,?_⟩
      refine sub_of h0 ?_ ?_ ?_ <;> simp only [US,WA,simprocAttr]
  · repeat' (first|(with_reducible apply zz1)|((with_reducible apply zz2);rfl;intro K' hK';simp only [WA,simprocAttr];(repeat (constructor;focus (clear hK';intros;simp_all;done)));(try (apply hK';clear hK' K')))|((with_reducible apply zz3);rfl;all_goals (intro h;try exact absurd h (by decide))))
    refine stop_cS rfl (by simp only [UA,WA,simprocAttr]) (hie) ?_
    simp only [WA,simprocAttr,UM,Bool.not_true,Bool.not_false,cond_true,cond_false]
    (try (apply hK';clear hK' K'))
    repeat' (first|(with_reducible apply zz1)|((with_reducible apply zz2);rfl;intro K' hK';simp only [WA,simprocAttr];(repeat (constructor;focus (clear hK';intros;simp_all;done)));(try (apply hK';clear hK' K')))|((with_reducible apply zz3);rfl;all_goals (intro h;try exact absurd h (by decide))))
    refine stop_cS rfl (by simp only [UA,WA,simprocAttr]) (hse) ?_
    simp only [WA,simprocAttr,UM, ]
    (try (apply hK';clear hK' K'))
    repeat' (first|(with_reducible apply zz1)|((with_reducible apply zz2);rfl;intro K' hK';simp only [WA,simprocAttr];(repeat (constructor;focus (clear hK';intros;simp_all;done)));(try (apply hK';clear hK' K')))|((with_reducible apply zz3);rfl;all_goals (intro h;try exact absurd h (by decide))))
    simp only [KretS,retL,retOne,oneV,US,WA,simprocAttr,h0,hds,List.map_append,List.map_cons,List.map_nil]
 | more _ _ _ h hc x b hb hb2 hr hk _ _ ht =>
  have hsx6:=okL_six h
  have hkl:=isB_ltG hk
  have hwe : IntKind.i64.wrap ((wAt s b : Int) + 1) = ((wAt s b + 1 : Nat) : Int):=by rw [wrap_in (by omega) (by omega)];omega
  have hb0:=(wAt_in s b hb2).1
  have hlt : a < wAt s b + 1:=by omega
  have hwd:=gword_ok Γ s hs a ha _ _ (h ▸ hrl)
  have hc5:=isB_ltG hc
  have hsc:=gsign_l Γ s hs (wAt s a + (wOf s a).size) hwz 58 58 rfl hc
  have hie:=gis_l Γ s hs b hb2 44 44 rfl
  rw [hk] at hie
  obtain ⟨xk,xfr,xto,xso,xnm,xls,xl⟩:=x
  have hds:=gds_app K (.mk xk xfr xto xso xnm xls xl)
  simp only [RdG,Gt.d] at hr hds
  generalize wAt s (wAt s a + (wOf s a).size) = c2 at *
  generalize wAt s b = e2 at *
  generalize hC : wAt s a = c at *
  generalize hW : wOf s a = w at *
  unfold rBox at hwd hsc hr hie
  refine zw1 ?_
  refine zw0 ?_
  (with_reducible refine swp_drawX ?_ ?_ ?_ (⟨⟨[],[]⟩,[],[],[],[],[(7,(0,([.d (sD s),.d (iD ((c + w.size : Nat) : Int))],sD w,[2,1,3,4])))]⟩) _ rfl (fun K' hK' gops fin hgops hfin=>?_)
   · kernel_rfl
   · rfl
   · rfl
   repeat' first
    | (refine vcX_dead rfl trivial (by simp only [WA,simprocAttr,UX,UA];rfl) (by simp only [List.nil_append,List.cons_append];rfl) (by simp only [zn2];rfl) ?_)
    | (refine vcX_step rfl rfl trivial (by simp only [WA,simprocAttr,UX,UA,hwd,List.length_map,m1,m2 ];rfl) ?_ (by simp only [WA,simprocAttr,UX,UA];rfl) (by simp only [WA,simprocAttr,UX,UA];rfl) (by simp only [List.nil_append,List.cons_append];rfl) (by simp only [zn2];rfl) ?_;focus (first | trivial | ((repeat' apply And.intro) <;> first | trivial | assumption | (clear hK' hfin hgops;intros;simp_all;done))))
   (refine vcX_nil (by subst hfin;kernel_rfl) ?_)
   clear hfin hgops fin gops
   (try (apply hK';clear hK' K')))
  repeat' (first|(with_reducible apply zz1)|((with_reducible apply zz2);rfl;intro K' hK';simp only [WA,simprocAttr];(repeat (constructor;focus (clear hK';intros;simp_all;done)));(try (apply hK';clear hK' K')))|((with_reducible apply zz3);rfl;all_goals (intro h;try exact absurd h (by decide))))
  refine stop_cS rfl (by simp only [UA,WA,simprocAttr]) (hsc) ?_
  simp only [WA,simprocAttr,UM, ]
  (try (apply hK';clear hK' K'))
  refine zw6 ?_
  refine zw0 ?_
  refine swp_midK [(0,.ref 0 0),(3,.ref 2 0)] [(0,.cells [.d (sD s),.d (iD (b : Nat))]),(1,.cells (gCs fr to (.own 3) (.own 4))),(2,.cells [.ref 1 0]),(3,.row 1 (L.map sD ++ [sD w])),(4,.row 7 (Gt.ds K ++ [.agg [iD xk,sD xfr,sD xto,iD xso,sD xnm,.slc (xls.map sD),.slc (Gt.ds xl)]]))] ?_ ?_
  · refine zw0 ?_
    refine swp_any (by kernel_rfl) (fun K' hK' hP'=>?_)
    clear hP'
    refine any_all (rs:=[0]) (by kernel_rfl) (by simp) (fun i hi=>?_)
    simp only [List.mem_cons,List.not_mem_nil,or_false] at hi
    subst hi
    refine ⟨_,rfl,rfl,?_⟩
    refine aop_step rfl rfl (by simp only [WA,simprocAttr];rfl) ?_ ?_
    · (repeat (refine And.intro ?_ ?_)) <;> first | trivial | (simp_all;done)
    simp only [WA,simprocAttr]
    refine any_all (rs:=[1,2]) (by kernel_rfl) (by simp) (fun i hi=>?_)
    simp only [List.mem_cons,List.not_mem_nil,or_false] at hi
    rcases hi with rfl | rfl
    · refine ⟨_,rfl,rfl,?_⟩
      refine aop_step rfl rfl (by simp only [WA,simprocAttr];rfl) ?_ ?_
      · (repeat (refine And.intro ?_ ?_)) <;> first | trivial | (simp_all;done)
      simp only [WA,simprocAttr]
      refine any_all (rs:=[2]) (by kernel_rfl) (by simp) (fun i hi=>?_)
      simp only [List.mem_cons,List.not_mem_nil,or_false] at hi
      subst hi
      refine ⟨_,rfl,rfl,?_⟩
      refine aop_step rfl rfl (by simp only [WA,simprocAttr];rfl) ?_ ?_
      · (repeat (refine And.intro ?_ ?_)) <;> first | trivial | (simp_all;done)
      simp only [WA,simprocAttr]
      refine any_all (rs:=[3]) (by kernel_rfl) (by simp) (fun i hi=>?_)
      simp only [List.mem_cons,List.not_mem_nil,or_false] at hi
      subst hi
      refine ⟨_,rfl,rfl,?_⟩
      refine aop_step rfl rfl (by simp only [WA,simprocAttr];rfl) ?_ ?_
      · (repeat (refine And.intro ?_ ?_)) <;> first | trivial | (simp_all;done)
      simp only [WA,simprocAttr]
      refine any_done (by kernel_rfl) ?_
      refine hK' _ _ ?_
      clear hK' K'
      repeat' (first|(with_reducible apply zz1)|((with_reducible apply zz2);rfl;intro K' hK';simp only [WA,simprocAttr];(repeat (constructor;focus (clear hK';intros;simp_all;done)));(try (apply hK';clear hK' K')))|((with_reducible apply zz3);rfl;all_goals (intro h;try exact absurd h (by decide))))
      (with_reducible refine swp_drawX ?_ ?_ ?_ (⟨⟨[],[]⟩,[(6,(0,([.d (sD s),.d (iD (b : Nat))],.agg [iD xk,sD xfr,sD xto,iD xso,sD xnm,.slc (xls.map sD),.slc (Gt.ds xl)])))],[],[],[],[]⟩) _ rfl (fun K' hK' gops fin hgops hfin=>?_)
       · kernel_rfl
       · rfl
       · rfl
       repeat' first
        | (refine vcX_dead rfl trivial (by simp only [WA,simprocAttr,UX,UA];rfl) (by simp only [List.nil_append,List.cons_append];rfl) (by simp only [zn2];rfl) ?_)
        | (refine vcX_step rfl rfl trivial (by simp only [WA,simprocAttr,UX,UA,hr,List.length_map,hdl,m3,m4,one_max ];rfl) ?_ (by simp only [WA,simprocAttr,UX,UA];rfl) (by simp only [WA,simprocAttr,UX,UA];rfl) (by simp only [List.nil_append,List.cons_append];rfl) (by simp only [zn2];rfl) ?_;focus (first | trivial | ((repeat' apply And.intro) <;> first | trivial | assumption | (clear hK' hfin hgops;intros;simp_all;done))))
       (refine vcX_nil (by subst hfin;kernel_rfl) ?_)
       clear hfin hgops fin gops
       (try (apply hK';clear hK' K')))
      refine ⟨rfl,?_⟩
      refine sub_of h0 ?_ ?_ ?_ <;> simp only [US,WA,simprocAttr]
    · refine ⟨_,rfl,rfl,?_⟩
      refine aop_step rfl rfl (by simp only [WA,simprocAttr];rfl) ?_ ?_
      · (repeat (refine And.intro ?_ ?_)) <;> first | trivial | (simp_all;done)
      simp only [WA,simprocAttr]
      refine any_all (rs:=[1]) (by kernel_rfl) (by simp) (fun i hi=>?_)
      simp only [List.mem_cons,List.not_mem_nil,or_false] at hi
      subst hi
      refine ⟨_,rfl,rfl,?_⟩
      refine aop_step rfl rfl (by simp only [WA,simprocAttr];rfl) ?_ ?_
      · (repeat (refine And.intro ?_ ?_)) <;> first | trivial | (simp_all;done)
      simp only [WA,simprocAttr]
      refine any_all (rs:=[3]) (by kernel_rfl) (by simp) (fun i hi=>?_)
      simp only [List.mem_cons,List.not_mem_nil,or_false] at hi
      subst hi
      refine ⟨_,rfl,rfl,?_⟩
      refine aop_step rfl rfl (by simp only [WA,simprocAttr];rfl) ?_ ?_
      · (repeat (refine And.intro ?_ ?_)) <;> first | trivial | (simp_all;done)
      simp only [WA,simprocAttr]
      refine any_done (by kernel_rfl) ?_
      refine hK' _ _ ?_
      clear hK' K'
      repeat' (first|(with_reducible apply zz1)|((with_reducible apply zz2);rfl;intro K' hK';simp only [WA,simprocAttr];(repeat (constructor;focus (clear hK';intros;simp_all;done)));(try (apply hK';clear hK' K')))|((with_reducible apply zz3);rfl;all_goals (intro h;try exact absurd h (by decide))))
      (with_reducible refine swp_drawX ?_ ?_ ?_ (⟨⟨[],[]⟩,[(5,(0,([.d (sD s),.d (iD (b : Nat))],.agg [iD xk,sD xfr,sD xto,iD xso,sD xnm,.slc (xls.map sD),.slc (Gt.ds xl)])))],[],[],[],[]⟩) _ rfl (fun K' hK' gops fin hgops hfin=>?_)
       · kernel_rfl
       · rfl
       · rfl
       repeat' first
        | (refine vcX_dead rfl trivial (by simp only [WA,simprocAttr,UX,UA];rfl) (by simp only [List.nil_append,List.cons_append];rfl) (by simp only [zn2];rfl) ?_)
        | (refine vcX_step rfl rfl trivial (by simp only [WA,simprocAttr,UX,UA,hr,List.length_map,hdl,m3,m4,one_max ];rfl) ?_ (by simp only [WA,simprocAttr,UX,UA];rfl) (by simp only [WA,simprocAttr,UX,UA];rfl) (by simp only [List.nil_append,List.cons_append];rfl) (by simp only [zn2];rfl) ?_;focus (first | trivial | ((repeat' apply And.intro) <;> first | trivial | assumption | (clear hK' hfin hgops;intros;simp_all;done))))
       (refine vcX_nil (by subst hfin;kernel_rfl) ?_)
       clear hfin hgops fin gops
       (try (apply hK';clear hK' K')))
      repeat' (first|(with_reducible apply zz1)|((with_reducible apply zz2);rfl;intro K' hK';simp only [WA,simprocAttr,Int.toNat_natCast,hi1,hi0,hdl,List.length_append];(repeat (constructor;focus (clear hK';intros;simp_all;done)));(try (apply hK';clear hK' K')))|((with_reducible apply zz3);rfl;all_goals (intro h;try exact absurd h (by decide))))
      refine stop_sE rfl (by simp only [WA,simprocAttr,storeE,setE,dAll,Option.map_some,gget_last,gset_last];rfl) ?_ ?_
      · first | trivial | ((repeat' apply And.intro) <;> first | trivial | assumption | (clear hK';intros;simp_all;done))
      simp only [WA,simprocAttr,gget_last,gset_last]
      (repeat (constructor;focus (clear hK';intros;simp_all;done)))
      (try (apply hK';clear hK' K'))
      refine ⟨rfl,?_⟩
      refine sub_of h0 ?_ ?_ ?_ <;> simp only [US,WA,simprocAttr]
  · repeat' (first|(with_reducible apply zz1)|((with_reducible apply zz2);rfl;intro K' hK';simp only [WA,simprocAttr];(repeat (constructor;focus (clear hK';intros;simp_all;done)));(try (apply hK';clear hK' K')))|((with_reducible apply zz3);rfl;all_goals (intro h;try exact absurd h (by decide))))
    refine stop_cS rfl (by simp only [UA,WA,simprocAttr]) (hie) ?_
    simp only [WA,simprocAttr,UM,Bool.not_true,Bool.not_false,cond_true,cond_false]
    (try (apply hK';clear hK' K'))
    repeat' (first|(with_reducible apply zz1)|((with_reducible apply zz2);rfl;intro K' hK';simp only [WA,simprocAttr,hwe];(repeat (constructor;focus (clear hK';intros;simp_all;done)));(try (apply hK';clear hK' K')))|((with_reducible apply zz3);rfl;all_goals (intro h;try exact absurd h (by decide))))
    refine ⟨((_,_),_),⟨hkl,(by simp only [List.length_append,List.length_cons,List.length_nil];exact hsx6),by simp only [List.length_append,List.length_cons,List.length_nil] at hKL ⊢;rw [hKL],ht⟩,(by show s.size - (e2 + 1) < s.size - a;omega),?_⟩
    refine sub_of h0 ?_ ?_ ?_ <;> simp only [US,WA,simprocAttr,hds,List.map_append,List.map_cons,List.map_nil]
set_option maxHeartbeats 16000000 in
set_option maxRecDepth 100000 in
theorem gchoice_no (Γ : Gl) (s : ByteArray) (hs : s.size ≤ 2000) (fr to : ByteArray) (a0 : Nat) (ha0 : a0 ≤ s.size) (e : Nat) (hp0 : CLp Γ s [] [] a0 none e) : XFn Tryd.prog Γ 44 [.ref 0 0,.ref 1 0] [(0,.cells [.d (sD s),.d (iD (a0 : Nat))]),(1,.cells (gCs fr to .nil .nil))] (failG 3 (e : Nat)) [(0,.cells [.d (sD s),.d (iD (e : Nat))]),(1,.cells [.junk,.junk,.junk,.junk,.junk,.junk,.junk])]:=by
 refine xfn_of_swp (N:=55) Tryd.func44 rfl (by decide) rfl (by simp) (fun C h0=>?_)
 simp only [argS]
 repeat' (first|(with_reducible apply zz1)|((with_reducible apply zz2);rfl;intro K' hK';simp only [WA,simprocAttr];(repeat (constructor;focus (clear hK';intros;simp_all;done)));(try (apply hK';clear hK' K')))|((with_reducible apply zz3);rfl;all_goals (intro h;try exact absurd h (by decide))))
 refine swp_nilB 1 5 3 1 rfl rfl rfl (by decide) ?_
 simp only [WA,simprocAttr]
 refine swp_nilB 1 6 4 7 rfl rfl rfl (by decide) ?_
 simp only [WA,simprocAttr]
 refine swp_loop (α := (List ByteArray × List Gt) × Nat) (fun p=>[(0,.ref 0 0),(3,.ref 2 0)]) (fun p=>[(0,.cells [.d (sD s),.d (iD (p.2 : Nat))]),(1,.cells (gCs fr to (.own 3) (.own 4))),(2,.cells [.ref 1 0]),(3,.row 1 (p.1.1.map sD)),(4,.row 7 (Gt.ds p.1.2))])
  (fun p=>p.2 ≤ s.size ∧ p.1.1.length ≤ 6 ∧ p.1.2.length = p.1.1.length ∧ CLp Γ s p.1.1 p.1.2 p.2 none e) (fun p=>s.size - p.2) (([],[]),a0) ⟨ha0,Nat.zero_le _,rfl,hp0⟩ (by simp only [List.map_nil,Gt.ds];refine sub_of h0 ?_ ?_ ?_ <;> simp only [US,WA,simprocAttr]) (fun p hp=>?_)
 obtain ⟨⟨L,K⟩,a⟩:=p
 obtain ⟨ha,hL6,hKL,hp⟩:=hp
 simp only at ha hL6 hKL hp ⊢
 have hdl:=Gt.ds_len K
 have hrl:=right_label Γ 6 fr to 0 ⟨#[]⟩ L (by omega) (Gt.ds K) (wOf s a)
 obtain ⟨hk1,hk2⟩:=wAt_in s a ha
 have hwz:=wOf_inG s a ha
 have m1 : (L.length + 1) * 16 ≤ 140737488355328:=by omega
 have m2 : L.length + 1 ≤ maxLen:=by unfold maxLen;omega
 have m3 : (K.length + 1) * 112 ≤ 140737488355328:=by omega
 have m4 : K.length + 1 ≤ maxLen:=by unfold maxLen;omega
 have hi0 : (0 : Int) ≤ (K.length : Int):=by omega
 have hi1 : (K.length : Int) < ((K.length + 1 : Nat) : Int):=by omega
 clear hp0
 cases hp with
 | bad _ _ _ h =>
  have hwd:=gword_no Γ s hs a ha _ _ (h ▸ hrl)
  generalize hC : wAt s a = c at *
  generalize hW : wOf s a = w at *
  unfold rBox at hwd
  refine zw1 ?_
  refine zw0 ?_
  (with_reducible refine swp_drawP ?_ ?_ ?_ (⟨⟨[],[]⟩,[],[],[],[],[(7,(0,([.d (sD s),.d (iD (c : Nat))],iD 0,[2,1,3,4])))]⟩) _ rfl [1] 7 0 ([.d (sD s),.d (iD (c : Nat))]) (failG 3 (c : Nat)) [7,8,9,10,11,12] rfl rfl ?_ (fun K' hK' gops fin hgops hfin=>?_)
   · kernel_rfl
   · rfl
   · rfl
   · kernel_rfl
   repeat' first
    | (refine vcX_dead rfl trivial (by simp only [WA,simprocAttr,UX,UA];rfl) (by simp only [List.nil_append,List.cons_append];rfl) (by simp only [zn2];rfl) ?_)
    | (refine vcX_step rfl rfl trivial (by simp only [WA,simprocAttr,UX,UA,hwd,List.length_map,m1,m2];rfl) ?_ (by simp only [WA,simprocAttr,UX,UA];rfl) (by simp only [WA,simprocAttr,UX,UA];rfl) (by simp only [List.nil_append,List.cons_append];rfl) (by simp only [zn2];rfl) ?_;focus (first | trivial | ((repeat' apply And.intro) <;> first | trivial | assumption | (clear hK' hfin hgops;intros;simp_all;done))))
    | (refine vcX_dead rfl (by (simp only [WA,simprocAttr,UX,UA,hwd,List.length_map,m1,m2]) <;> (first | trivial | ((repeat' apply And.intro) <;> first | trivial | assumption | (clear hK' hfin hgops;intros;simp_all;done)))) (by simp only [WA,simprocAttr,UX,UA];rfl) (by simp only [List.nil_append,List.cons_append];rfl) (by simp only [zn2];rfl) ?_)
   (refine vcX_nil (by subst hfin;kernel_rfl) (fun e' s' hbs=>?_))
   clear hfin hgops fin gops
   clear hK' K')
  repeat (first | refine kseq_p ?_ | refine kblk_p ?_ | refine kloop_p ?_)
  have hb1:=hbs 1 (by simp)
  simp only [KpanS,US,WA,simprocAttr,h0,lk_put_same]
  rw [lk_put_ne _ (show (1 : Nat) ≠ 0 by decide),hb1]
  simp only [WA,simprocAttr,US]
 | colon _ _ _ h hc =>
  have hwd:=gword_ok Γ s hs a ha _ _ (h ▸ hrl)
  have hsc:=gsign_x Γ s hs (wAt s a + (wOf s a).size) hwz 58 58 rfl hc
  generalize wAt s (wAt s a + (wOf s a).size) = c2 at *
  generalize hC : wAt s a = c at *
  generalize hW : wOf s a = w at *
  unfold rBox at hwd hsc
  refine zw1 ?_
  refine zw0 ?_
  (with_reducible refine swp_drawX ?_ ?_ ?_ (⟨⟨[],[]⟩,[],[],[],[],[(7,(0,([.d (sD s),.d (iD ((c + w.size : Nat) : Int))],sD w,[2,1,3,4])))]⟩) _ rfl (fun K' hK' gops fin hgops hfin=>?_)
   · kernel_rfl
   · rfl
   · rfl
   repeat' first
    | (refine vcX_dead rfl trivial (by simp only [WA,simprocAttr,UX,UA];rfl) (by simp only [List.nil_append,List.cons_append];rfl) (by simp only [zn2];rfl) ?_)
    | (refine vcX_step rfl rfl trivial (by simp only [WA,simprocAttr,UX,UA,hwd,List.length_map,m1,m2 ];rfl) ?_ (by simp only [WA,simprocAttr,UX,UA];rfl) (by simp only [WA,simprocAttr,UX,UA];rfl) (by simp only [List.nil_append,List.cons_append];rfl) (by simp only [zn2];rfl) ?_;focus (first | trivial | ((repeat' apply And.intro) <;> first | trivial | assumption | (clear hK' hfin hgops;intros;simp_all;done))))
   (refine vcX_nil (by subst hfin;kernel_rfl) ?_)
   clear hfin hgops fin gops
   (try (apply hK';clear hK' K')))
  repeat' (first|(with_reducible first|apply zw0|apply zw1|refine swp_skip ?_|refine swp_ret ?_|refine swp_exit ?_|refine swp_label ?_|apply zw6|refine kseq_x ?_|refine kseq_r ?_|refine kblk_n ?_|refine kblk_r ?_|refine kblk_xs ?_|refine kloop_x ?_|refine kloop_r ?_)|((with_reducible refine kblk_xn ?_ ?_);rfl)|((with_reducible refine swp_regionX ?_ ?_ (fun K' hK' hP'=>?_));rfl;rfl;simp only [WA,simprocAttr];(repeat (constructor;focus (clear hK' hP';intros;simp_all;done)));(try (apply hK';clear hK' hP';clear K')))|((with_reducible refine swp_cond ?_ ?_);rfl;refine ⟨_,rfl,fun h=>?_,fun h=>?_⟩ <;> try exact absurd h (by decide)))
  refine stop_cX rfl (by simp only [UA,WA,simprocAttr]) (hsc) ?_
  simp only [UM,WA,simprocAttr]
  refine hP' _ _ _ ?_
  repeat (first | refine kseq_p ?_ | refine kblk_p ?_ | refine kloop_p ?_)
  simp only [KpanS,US,WA,simprocAttr,h0]
 | one _ _ _ h hc _ hr =>
  have hwd:=gword_ok Γ s hs a ha _ _ (h ▸ hrl)
  have hc5:=isB_ltG hc
  have hsc:=gsign_l Γ s hs (wAt s a + (wOf s a).size) hwz 58 58 rfl hc
  simp only [RdG] at hr
  generalize wAt s (wAt s a + (wOf s a).size) = c2 at *
  generalize hC : wAt s a = c at *
  generalize hW : wOf s a = w at *
  unfold rBox at hwd hsc hr
  refine zw1 ?_
  refine zw0 ?_
  (with_reducible refine swp_drawX ?_ ?_ ?_ (⟨⟨[],[]⟩,[],[],[],[],[(7,(0,([.d (sD s),.d (iD ((c + w.size : Nat) : Int))],sD w,[2,1,3,4])))]⟩) _ rfl (fun K' hK' gops fin hgops hfin=>?_)
   · kernel_rfl
   · rfl
   · rfl
   repeat' first
    | (refine vcX_dead rfl trivial (by simp only [WA,simprocAttr,UX,UA];rfl) (by simp only [List.nil_append,List.cons_append];rfl) (by simp only [zn2];rfl) ?_)
    | (refine vcX_step rfl rfl trivial (by simp only [WA,simprocAttr,UX,UA,hwd,List.length_map,m1,m2 ];rfl) ?_ (by simp only [WA,simprocAttr,UX,UA];rfl) (by simp only [WA,simprocAttr,UX,UA];rfl) (by simp only [List.nil_append,List.cons_append];rfl) (by simp only [zn2];rfl) ?_;focus (first | trivial | ((repeat' apply And.intro) <;> first | trivial | assumption | (clear hK' hfin hgops;intros;simp_all;done))))
   (refine vcX_nil (by subst hfin;kernel_rfl) ?_)
   clear hfin hgops fin gops
   (try (apply hK';clear hK' K')))
  repeat' (first|(with_reducible apply zz1)|((with_reducible apply zz2);rfl;intro K' hK';simp only [WA,simprocAttr];(repeat (constructor;focus (clear hK';intros;simp_all;done)));(try (apply hK';clear hK' K')))|((with_reducible apply zz3);rfl;all_goals (intro h;try exact absurd h (by decide))))
  refine stop_cS rfl (by simp only [UA,WA,simprocAttr]) (hsc) ?_
  simp only [WA,simprocAttr,UM, ]
  (try (apply hK';clear hK' K'))
  refine zw6 ?_
  refine zw0 ?_
  refine zw0 ?_
  refine swp_any (by kernel_rfl) (fun K' hK' hP'=>?_)
  clear hP'
  refine any_all (rs:=[0]) (by kernel_rfl) (by simp) (fun i hi=>?_)
  simp only [List.mem_cons,List.not_mem_nil,or_false] at hi
  subst hi
  refine ⟨_,rfl,rfl,?_⟩
  refine aop_step rfl rfl (by simp only [WA,simprocAttr];rfl) ?_ ?_
  · (repeat (refine And.intro ?_ ?_)) <;> first | trivial | (simp_all;done)
  simp only [WA,simprocAttr]
  refine any_all (rs:=[1,2]) (by kernel_rfl) (by simp) (fun i hi=>?_)
  simp only [List.mem_cons,List.not_mem_nil,or_false] at hi
  rcases hi with rfl | rfl
  · refine ⟨_,rfl,rfl,?_⟩
    refine aop_step rfl rfl (by simp only [WA,simprocAttr];rfl) ?_ ?_
    · (repeat (refine And.intro ?_ ?_)) <;> first | trivial | (simp_all;done)
    simp only [WA,simprocAttr]
    refine any_all (rs:=[2]) (by kernel_rfl) (by simp) (fun i hi=>?_)
    simp only [List.mem_cons,List.not_mem_nil,or_false] at hi
    subst hi
    refine ⟨_,rfl,rfl,?_⟩
    refine aop_step rfl rfl (by simp only [WA,simprocAttr];rfl) ?_ ?_
    · (repeat (refine And.intro ?_ ?_)) <;> first | trivial | (simp_all;done)
    simp only [WA,simprocAttr]
    refine any_all (rs:=[3]) (by kernel_rfl) (by simp) (fun i hi=>?_)
    simp only [List.mem_cons,List.not_mem_nil,or_false] at hi
    subst hi
    refine ⟨_,rfl,rfl,?_⟩
    refine aop_step rfl rfl (by simp only [WA,simprocAttr];rfl) ?_ ?_
    · (repeat (refine And.intro ?_ ?_)) <;> first | trivial | (simp_all;done)
    simp only [WA,simprocAttr]
    refine any_done (by kernel_rfl) ?_
    refine hK' _ _ ?_
    clear hK' K'
    repeat' (first|(with_reducible apply zz1)|((with_reducible apply zz2);rfl;intro K' hK';simp only [WA,simprocAttr];(repeat (constructor;focus (clear hK';intros;simp_all;done)));(try (apply hK';clear hK' K')))|((with_reducible apply zz3);rfl;all_goals (intro h;try exact absurd h (by decide))))
    (with_reducible refine swp_drawP ?_ ?_ ?_ (⟨⟨[],[]⟩,[],[],[],[],[]⟩) _ rfl [1] 6 0 ([.d (sD s),.d (iD (e : Nat))]) (failG 3 (e : Nat)) [6,7,8,9,10,11] rfl rfl ?_ (fun K' hK' gops fin hgops hfin=>?_)
     · kernel_rfl
     · rfl
     · rfl
     · kernel_rfl
     repeat' first
      | (refine vcX_dead rfl trivial (by simp only [WA,simprocAttr,UX,UA];rfl) (by simp only [List.nil_append,List.cons_append];rfl) (by simp only [zn2];rfl) ?_)
      | (refine vcX_step rfl rfl trivial (by simp only [WA,simprocAttr,UX,UA,hr,List.length_map,hdl,m3,m4,one_max];rfl) ?_ (by simp only [WA,simprocAttr,UX,UA];rfl) (by simp only [WA,simprocAttr,UX,UA];rfl) (by simp only [List.nil_append,List.cons_append];rfl) (by simp only [zn2];rfl) ?_;focus (first | trivial | ((repeat' apply And.intro) <;> first | trivial | assumption | (clear hK' hfin hgops;intros;simp_all;done))))
      | (refine vcX_dead rfl (by (simp only [WA,simprocAttr,UX,UA,hr,List.length_map,hdl,m3,m4,one_max]) <;> (first | trivial | ((repeat' apply And.intro) <;> first | trivial | assumption | (clear hK' hfin hgops;intros;simp_all;done)))) (by simp only [WA,simprocAttr,UX,UA];rfl) (by simp only [List.nil_append,List.cons_append];rfl) (by simp only [zn2];rfl) ?_)
     (refine vcX_nil (by subst hfin;kernel_rfl) (fun e' s' hbs=>?_))
     clear hfin hgops fin gops
     clear hK' K')
    repeat (first | refine kseq_p ?_ | refine kblk_p ?_ | refine kloop_p ?_)
    have hb1:=hbs 1 (by simp)
    simp only [KpanS,US,WA,simprocAttr,h0,lk_put_same]
    rw [lk_put_ne _ (show (1 : Nat) ≠ 0 by decide),hb1]
    simp only [WA,simprocAttr,US]
  · refine ⟨_,rfl,rfl,?_⟩
    refine aop_step rfl rfl (by simp only [WA,simprocAttr];rfl) ?_ ?_
    · (repeat (refine And.intro ?_ ?_)) <;> first | trivial | (simp_all;done)
    simp only [WA,simprocAttr]
    refine any_all (rs:=[1]) (by kernel_rfl) (by simp) (fun i hi=>?_)
    simp only [List.mem_cons,List.not_mem_nil,or_false] at hi
    subst hi
    refine ⟨_,rfl,rfl,?_⟩
    refine aop_step rfl rfl (by simp only [WA,simprocAttr];rfl) ?_ ?_
    · (repeat (refine And.intro ?_ ?_)) <;> first | trivial | (simp_all;done)
    simp only [WA,simprocAttr]
    refine any_all (rs:=[3]) (by kernel_rfl) (by simp) (fun i hi=>?_)
    simp only [List.mem_cons,List.not_mem_nil,or_false] at hi
    subst hi
    refine ⟨_,rfl,rfl,?_⟩
    refine aop_step rfl rfl (by simp only [WA,simprocAttr];rfl) ?_ ?_
    · (repeat (refine And.intro ?_ ?_)) <;> first | trivial | (simp_all;done)
    simp only [WA,simprocAttr]
    refine any_done (by kernel_rfl) ?_
    refine hK' _ _ ?_
    clear hK' K'
    repeat' (first|(with_reducible apply zz1)|((with_reducible apply zz2);rfl;intro K' hK';simp only [WA,simprocAttr];(repeat (constructor;focus (clear hK';intros;simp_all;done)));(try (apply hK';clear hK' K')))|((with_reducible apply zz3);rfl;all_goals (intro h;try exact absurd h (by decide))))
    (with_reducible refine swp_drawP ?_ ?_ ?_ (⟨⟨[],[]⟩,[],[],[],[],[]⟩) _ rfl [1] 5 0 ([.d (sD s),.d (iD (e : Nat))]) (failG 3 (e : Nat)) [5,8,9,10,11] rfl rfl ?_ (fun K' hK' gops fin hgops hfin=>?_)
     · kernel_rfl
     · rfl
     · rfl
     · kernel_rfl
     repeat' first
      | (refine vcX_dead rfl trivial (by simp only [WA,simprocAttr,UX,UA];rfl) (by simp only [List.nil_append,List.cons_append];rfl) (by simp only [zn2];rfl) ?_)
      | (refine vcX_step rfl rfl trivial (by simp only [WA,simprocAttr,UX,UA,hr,List.length_map,hdl,m3,m4,one_max];rfl) ?_ (by simp only [WA,simprocAttr,UX,UA];rfl) (by simp only [WA,simprocAttr,UX,UA];rfl) (by simp only [List.nil_append,List.cons_append];rfl) (by simp only [zn2];rfl) ?_;focus (first | trivial | ((repeat' apply And.intro) <;> first | trivial | assumption | (clear hK' hfin hgops;intros;simp_all;done))))
      | (refine vcX_dead rfl (by (simp only [WA,simprocAttr,UX,UA,hr,List.length_map,hdl,m3,m4,one_max]) <;> (first | trivial | ((repeat' apply And.intro) <;> first | trivial | assumption | (clear hK' hfin hgops;intros;simp_all;done)))) (by simp only [WA,simprocAttr,UX,UA];rfl) (by simp only [List.nil_append,List.cons_append];rfl) (by simp only [zn2];rfl) ?_)
     (refine vcX_nil (by subst hfin;kernel_rfl) (fun e' s' hbs=>?_))
     clear hfin hgops fin gops
     clear hK' K')
    repeat (first | refine kseq_p ?_ | refine kblk_p ?_ | refine kloop_p ?_)
    have hb1:=hbs 1 (by simp)
    simp only [KpanS,US,WA,simprocAttr,h0,lk_put_same]
    rw [lk_put_ne _ (show (1 : Nat) ≠ 0 by decide),hb1]
    simp only [WA,simprocAttr,US]
 | fin _ _ _ h hc x b hb hb2 hr hk he =>
  have hwd:=gword_ok Γ s hs a ha _ _ (h ▸ hrl)
  have hc5:=isB_ltG hc
  have hsc:=gsign_l Γ s hs (wAt s a + (wOf s a).size) hwz 58 58 rfl hc
  have hie:=gis_l Γ s hs b hb2 44 44 rfl
  rw [hk] at hie
  obtain ⟨xk,xfr,xto,xso,xnm,xls,xl⟩:=x
  have hds:=gds_app K (.mk xk xfr xto xso xnm xls xl)
  simp only [RdG,Gt.d] at hr hds
  have hsk : ∀ c : Nat,isB s b c = true → SFn Tryd.prog Γ 41 [.ref 0 0,.d (.v (.int .u8 (c : Int)))] (rBox s (wAt s b)) (.tup []) (rBox s (wAt s b + 1)):=fun c h=>by
   have:=gsign_l Γ s hs (wAt s b) (wAt_in s b hb2).2 c c rfl (by rw [isB_atG];exact h)
   rw [wAt_againG] at this
   exact this
  have hsx : ∀ c : Nat,isB s b c = false → XFn Tryd.prog Γ 41 [.ref 0 0,.d (.v (.int .u8 (c : Int)))] (rBox s (wAt s b)) (failG 3 (wAt s b : Nat)) (rBox s (wAt s b)):=fun c h=>by
   have:=gsign_x Γ s hs (wAt s b) (wAt_in s b hb2).2 c c rfl (by rw [isB_atG];exact h)
   rw [wAt_againG] at this
   exact this
  have hb0:=(wAt_in s b hb2).1
  have hse:=hsx 125 he
  generalize wAt s (wAt s a + (wOf s a).size) = c2 at *
  generalize wAt s b = e2 at *
  generalize hC : wAt s a = c at *
  generalize hW : wOf s a = w at *
  unfold rBox at hwd hsc hr hie hse
  refine zw1 ?_
  refine zw0 ?_
  (with_reducible refine swp_drawX ?_ ?_ ?_ (⟨⟨[],[]⟩,[],[],[],[],[(7,(0,([.d (sD s),.d (iD ((c + w.size : Nat) : Int))],sD w,[2,1,3,4])))]⟩) _ rfl (fun K' hK' gops fin hgops hfin=>?_)
   · kernel_rfl
   · rfl
   · rfl
   repeat' first
    | (refine vcX_dead rfl trivial (by simp only [WA,simprocAttr,UX,UA];rfl) (by simp only [List.nil_append,List.cons_append];rfl) (by simp only [zn2];rfl) ?_)
    | (refine vcX_step rfl rfl trivial (by simp only [WA,simprocAttr,UX,UA,hwd,List.length_map,m1,m2 ];rfl) ?_ (by simp only [WA,simprocAttr,UX,UA];rfl) (by simp only [WA,simprocAttr,UX,UA];rfl) (by simp only [List.nil_append,List.cons_append];rfl) (by simp only [zn2];rfl) ?_;focus (first | trivial | ((repeat' apply And.intro) <;> first | trivial | assumption | (clear hK' hfin hgops;intros;simp_all;done))))
   (refine vcX_nil (by subst hfin;kernel_rfl) ?_)
   clear hfin hgops fin gops
   (try (apply hK';clear hK' K')))
  repeat' (first|(with_reducible apply zz1)|((with_reducible apply zz2);rfl;intro K' hK';simp only [WA,simprocAttr];(repeat (constructor;focus (clear hK';intros;simp_all;done)));(try (apply hK';clear hK' K')))|((with_reducible apply zz3);rfl;all_goals (intro h;try exact absurd h (by decide))))
  refine stop_cS rfl (by simp only [UA,WA,simprocAttr]) (hsc) ?_
  simp only [WA,simprocAttr,UM, ]
  (try (apply hK';clear hK' K'))
  refine zw6 ?_
  refine zw0 ?_
  refine swp_midK [(0,.ref 0 0),(3,.ref 2 0)] [(0,.cells [.d (sD s),.d (iD (b : Nat))]),(1,.cells (gCs fr to (.own 3) (.own 4))),(2,.cells [.ref 1 0]),(3,.row 1 (L.map sD ++ [sD w])),(4,.row 7 (Gt.ds K ++ [.agg [iD xk,sD xfr,sD xto,iD xso,sD xnm,.slc (xls.map sD),.slc (Gt.ds xl)]]))] ?_ ?_
  · refine zw0 ?_
    refine swp_any (by kernel_rfl) (fun K' hK' hP'=>?_)
    clear hP'
    refine any_all (rs:=[0]) (by kernel_rfl) (by simp) (fun i hi=>?_)
    simp only [List.mem_cons,List.not_mem_nil,or_false] at hi
    subst hi
    refine ⟨_,rfl,rfl,?_⟩
    refine aop_step rfl rfl (by simp only [WA,simprocAttr];rfl) ?_ ?_
    · (repeat (refine And.intro ?_ ?_)) <;> first | trivial | (simp_all;done)
    simp only [WA,simprocAttr]
    refine any_all (rs:=[1,2]) (by kernel_rfl) (by simp) (fun i hi=>?_)
    simp only [List.mem_cons,List.not_mem_nil,or_false] at hi
    rcases hi with rfl | rfl
    · refine ⟨_,rfl,rfl,?_⟩
      refine aop_step rfl rfl (by simp only [WA,simprocAttr];rfl) ?_ ?_
      · (repeat (refine And.intro ?_ ?_)) <;> first | trivial | (simp_all;done)
      simp only [WA,simprocAttr]
      refine any_all (rs:=[2]) (by kernel_rfl) (by simp) (fun i hi=>?_)
      simp only [List.mem_cons,List.not_mem_nil,or_false] at hi
      subst hi
      refine ⟨_,rfl,rfl,?_⟩
      refine aop_step rfl rfl (by simp only [WA,simprocAttr];rfl) ?_ ?_
      · (repeat (refine And.intro ?_ ?_)) <;> first | trivial | (simp_all;done)
      simp only [WA,simprocAttr]
      refine any_all (rs:=[3]) (by kernel_rfl) (by simp) (fun i hi=>?_)
      simp only [List.mem_cons,List.not_mem_nil,or_false] at hi
      subst hi
      refine ⟨_,rfl,rfl,?_⟩
      refine aop_step rfl rfl (by simp only [WA,simprocAttr];rfl) ?_ ?_
      · (repeat (refine And.intro ?_ ?_)) <;> first | trivial | (simp_all;done)
      simp only [WA,simprocAttr]
      refine any_done (by kernel_rfl) ?_
      refine hK' _ _ ?_
      clear hK' K'
      repeat' (first|(with_reducible apply zz1)|((with_reducible apply zz2);rfl;intro K' hK';simp only [WA,simprocAttr];(repeat (constructor;focus (clear hK';intros;simp_all;done)));(try (apply hK';clear hK' K')))|((with_reducible apply zz3);rfl;all_goals (intro h;try exact absurd h (by decide))))
      (with_reducible refine swp_drawX ?_ ?_ ?_ (⟨⟨[],[]⟩,[(6,(0,([.d (sD s),.d (iD (b : Nat))],.agg [iD xk,sD xfr,sD xto,iD xso,sD xnm,.slc (xls.map sD),.slc (Gt.ds xl)])))],[],[],[],[]⟩) _ rfl (fun K' hK' gops fin hgops hfin=>?_)
       · kernel_rfl
       · rfl
       · rfl
       repeat' first
        | (refine vcX_dead rfl trivial (by simp only [WA,simprocAttr,UX,UA];rfl) (by simp only [List.nil_append,List.cons_append];rfl) (by simp only [zn2];rfl) ?_)
        | (refine vcX_step rfl rfl trivial (by simp only [WA,simprocAttr,UX,UA,hr,List.length_map,hdl,m3,m4,one_max ];rfl) ?_ (by simp only [WA,simprocAttr,UX,UA];rfl) (by simp only [WA,simprocAttr,UX,UA];rfl) (by simp only [List.nil_append,List.cons_append];rfl) (by simp only [zn2];rfl) ?_;focus (first | trivial | ((repeat' apply And.intro) <;> first | trivial | assumption | (clear hK' hfin hgops;intros;simp_all;done))))
       (refine vcX_nil (by subst hfin;kernel_rfl) ?_)
       clear hfin hgops fin gops
       (try (apply hK';clear hK' K')))
      refine ⟨rfl,?_⟩
      refine sub_of h0 ?_ ?_ ?_ <;> simp only [US,WA,simprocAttr]
    · refine ⟨_,rfl,rfl,?_⟩
      refine aop_step rfl rfl (by simp only [WA,simprocAttr];rfl) ?_ ?_
      · (repeat (refine And.intro ?_ ?_)) <;> first | trivial | (simp_all;done)
      simp only [WA,simprocAttr]
      refine any_all (rs:=[1]) (by kernel_rfl) (by simp) (fun i hi=>?_)
      simp only [List.mem_cons,List.not_mem_nil,or_false] at hi
      subst hi
      refine ⟨_,rfl,rfl,?_⟩
      refine aop_step rfl rfl (by simp only [WA,simprocAttr];rfl) ?_ ?_
      · (repeat (refine And.intro ?_ ?_)) <;> first | trivial | (simp_all;done)
      simp only [WA,simprocAttr]
      refine any_all (rs:=[3]) (by kernel_rfl) (by simp) (fun i hi=>?_)
      simp only [List.mem_cons,List.not_mem_nil,or_false] at hi
      subst hi
      refine ⟨_,rfl,rfl,?_⟩
      refine aop_step rfl rfl (by simp only [WA,simprocAttr];rfl) ?_ ?_
      · (repeat (refine And.intro ?_ ?_)) <;> first | trivial | (simp_all;done)
      simp only [WA,simprocAttr]
      refine any_done (by kernel_rfl) ?_
      refine hK' _ _ ?_
      clear hK' K'
      repeat' (first|(with_reducible apply zz1)|((with_reducible apply zz2);rfl;intro K' hK';simp only [WA,simprocAttr];(repeat (constructor;focus (clear hK';intros;simp_all;done)));(try (apply hK';clear hK' K')))|((with_reducible apply zz3);rfl;all_goals (intro h;try exact absurd h (by decide))))
      (with_reducible refine swp_drawX ?_ ?_ ?_ (⟨⟨[],[]⟩,[(5,(0,([.d (sD s),.d (iD (b : Nat))],.agg [iD xk,sD xfr,sD xto,iD xso,sD xnm,.slc (xls.map sD),.slc (Gt.ds xl)])))],[],[],[],[]⟩) _ rfl (fun K' hK' gops fin hgops hfin=>?_)
       · kernel_rfl
       · rfl
       · rfl
       repeat' first
        | (refine vcX_dead rfl trivial (by simp only [WA,simprocAttr,UX,UA];rfl) (by simp only [List.nil_append,List.cons_append];rfl) (by simp only [zn2];rfl) ?_)
        | (refine vcX_step rfl rfl trivial (by simp only [WA,simprocAttr,UX,UA,hr,List.length_map,hdl,m3,m4,one_max ];rfl) ?_ (by simp only [WA,simprocAttr,UX,UA];rfl) (by simp only [WA,simprocAttr,UX,UA];rfl) (by simp only [List.nil_append,List.cons_append];rfl) (by simp only [zn2];rfl) ?_;focus (first | trivial | ((repeat' apply And.intro) <;> first | trivial | assumption | (clear hK' hfin hgops;intros;simp_all;done))))
       (refine vcX_nil (by subst hfin;kernel_rfl) ?_)
       clear hfin hgops fin gops
       (try (apply hK';clear hK' K')))
      repeat' (first|(with_reducible apply zz1)|((with_reducible apply zz2);rfl;intro K' hK';simp only [WA,simprocAttr,Int.toNat_natCast,hi1,hi0,hdl,List.length_append];(repeat (constructor;focus (clear hK';intros;simp_all;done)));(try (apply hK';clear hK' K')))|((with_reducible apply zz3);rfl;all_goals (intro h;try exact absurd h (by decide))))
      refine stop_sE rfl (by simp only [WA,simprocAttr,storeE,setE,dAll,Option.map_some,gget_last,gset_last];rfl) ?_ ?_
      · first | trivial | ((repeat' apply And.intro) <;> first | trivial | assumption | (clear hK';intros;simp_all;done))
      simp only [WA,simprocAttr,gget_last,gset_last]
      (repeat (constructor;focus (clear hK';intros;simp_all;done)))
      (try (apply hK';clear hK' K'))
      refine ⟨rfl,?_⟩
      refine sub_of h0 ?_ ?_ ?_ <;> simp only [US,WA,simprocAttr]
  · repeat' (first|(with_reducible apply zz1)|((with_reducible apply zz2);rfl;intro K' hK';simp only [WA,simprocAttr];(repeat (constructor;focus (clear hK';intros;simp_all;done)));(try (apply hK';clear hK' K')))|((with_reducible apply zz3);rfl;all_goals (intro h;try exact absurd h (by decide))))
    refine stop_cS rfl (by simp only [UA,WA,simprocAttr]) (hie) ?_
    simp only [WA,simprocAttr,UM,Bool.not_true,Bool.not_false,cond_true,cond_false]
    (try (apply hK';clear hK' K'))
    repeat' (first|(with_reducible first|apply zw0|apply zw1|refine swp_skip ?_|refine swp_ret ?_|refine swp_exit ?_|refine swp_label ?_|apply zw6|refine kseq_x ?_|refine kseq_r ?_|refine kblk_n ?_|refine kblk_r ?_|refine kblk_xs ?_|refine kloop_x ?_|refine kloop_r ?_)|((with_reducible refine kblk_xn ?_ ?_);rfl)|((with_reducible refine swp_regionX ?_ ?_ (fun K' hK' hP'=>?_));rfl;rfl;simp only [WA,simprocAttr];(repeat (constructor;focus (clear hK' hP';intros;simp_all;done)));(try (apply hK';clear hK' hP';clear K')))|((with_reducible refine swp_cond ?_ ?_);rfl;refine ⟨_,rfl,fun h=>?_,fun h=>?_⟩ <;> try exact absurd h (by decide)))
    refine stop_cX rfl (by simp only [UA,WA,simprocAttr]) (hse) ?_
    simp only [UM,WA,simprocAttr]
    refine hP' _ _ _ ?_
    repeat (first | refine kseq_p ?_ | refine kblk_p ?_ | refine kloop_p ?_)
    simp only [KpanS,US,WA,simprocAttr,h0]
 | more _ _ _ h hc x b hb hb2 hr hk _ _ ht =>
  have hsx6:=okL_six h
  have hkl:=isB_ltG hk
  have hwe : IntKind.i64.wrap ((wAt s b : Int) + 1) = ((wAt s b + 1 : Nat) : Int):=by rw [wrap_in (by omega) (by omega)];omega
  have hb0:=(wAt_in s b hb2).1
  have hlt : a < wAt s b + 1:=by omega
  have hwd:=gword_ok Γ s hs a ha _ _ (h ▸ hrl)
  have hc5:=isB_ltG hc
  have hsc:=gsign_l Γ s hs (wAt s a + (wOf s a).size) hwz 58 58 rfl hc
  have hie:=gis_l Γ s hs b hb2 44 44 rfl
  rw [hk] at hie
  obtain ⟨xk,xfr,xto,xso,xnm,xls,xl⟩:=x
  have hds:=gds_app K (.mk xk xfr xto xso xnm xls xl)
  simp only [RdG,Gt.d] at hr hds
  generalize wAt s (wAt s a + (wOf s a).size) = c2 at *
  generalize wAt s b = e2 at *
  generalize hC : wAt s a = c at *
  generalize hW : wOf s a = w at *
  unfold rBox at hwd hsc hr hie
  refine zw1 ?_
  refine zw0 ?_
  (with_reducible refine swp_drawX ?_ ?_ ?_ (⟨⟨[],[]⟩,[],[],[],[],[(7,(0,([.d (sD s),.d (iD ((c + w.size : Nat) : Int))],sD w,[2,1,3,4])))]⟩) _ rfl (fun K' hK' gops fin hgops hfin=>?_)
   · kernel_rfl
   · rfl
   · rfl
   repeat' first
    | (refine vcX_dead rfl trivial (by simp only [WA,simprocAttr,UX,UA];rfl) (by simp only [List.nil_append,List.cons_append];rfl) (by simp only [zn2];rfl) ?_)
    | (refine vcX_step rfl rfl trivial (by simp only [WA,simprocAttr,UX,UA,hwd,List.length_map,m1,m2 ];rfl) ?_ (by simp only [WA,simprocAttr,UX,UA];rfl) (by simp only [WA,simprocAttr,UX,UA];rfl) (by simp only [List.nil_append,List.cons_append];rfl) (by simp only [zn2];rfl) ?_;focus (first | trivial | ((repeat' apply And.intro) <;> first | trivial | assumption | (clear hK' hfin hgops;intros;simp_all;done))))
   (refine vcX_nil (by subst hfin;kernel_rfl) ?_)
   clear hfin hgops fin gops
   (try (apply hK';clear hK' K')))
  repeat' (first|(with_reducible apply zz1)|((with_reducible apply zz2);rfl;intro K' hK';simp only [WA,simprocAttr];(repeat (constructor;focus (clear hK';intros;simp_all;done)));(try (apply hK';clear hK' K')))|((with_reducible apply zz3);rfl;all_goals (intro h;try exact absurd h (by decide))))
  refine stop_cS rfl (by simp only [UA,WA,simprocAttr]) (hsc) ?_
  simp only [WA,simprocAttr,UM, ]
  (try (apply hK';clear hK' K'))
  refine zw6 ?_
  refine zw0 ?_
  refine swp_midK [(0,.ref 0 0),(3,.ref 2 0)] [(0,.cells [.d (sD s),.d (iD (b : Nat))]),(1,.cells (gCs fr to (.own 3) (.own 4))),(2,.cells [.ref 1 0]),(3,.row 1 (L.map sD ++ [sD w])),(4,.row 7 (Gt.ds K ++ [.agg [iD xk,sD xfr,sD xto,iD xso,sD xnm,.slc (xls.map sD),.slc (Gt.ds xl)]]))] ?_ ?_
  · refine zw0 ?_
    refine swp_any (by kernel_rfl) (fun K' hK' hP'=>?_)
    clear hP'
    refine any_all (rs:=[0]) (by kernel_rfl) (by simp) (fun i hi=>?_)
    simp only [List.mem_cons,List.not_mem_nil,or_false] at hi
    subst hi
    refine ⟨_,rfl,rfl,?_⟩
    refine aop_step rfl rfl (by simp only [WA,simprocAttr];rfl) ?_ ?_
    · (repeat (refine And.intro ?_ ?_)) <;> first | trivial | (simp_all;done)
    simp only [WA,simprocAttr]
    refine any_all (rs:=[1,2]) (by kernel_rfl) (by simp) (fun i hi=>?_)
    simp only [List.mem_cons,List.not_mem_nil,or_false] at hi
    rcases hi with rfl | rfl
    · refine ⟨_,rfl,rfl,?_⟩
      refine aop_step rfl rfl (by simp only [WA,simprocAttr];rfl) ?_ ?_
      · (repeat (refine And.intro ?_ ?_)) <;> first | trivial | (simp_all;done)
      simp only [WA,simprocAttr]
      refine any_all (rs:=[2]) (by kernel_rfl) (by simp) (fun i hi=>?_)
      simp only [List.mem_cons,List.not_mem_nil,or_false] at hi
      subst hi
      refine ⟨_,rfl,rfl,?_⟩
      refine aop_step rfl rfl (by simp only [WA,simprocAttr];rfl) ?_ ?_
      · (repeat (refine And.intro ?_ ?_)) <;> first | trivial | (simp_all;done)
      simp only [WA,simprocAttr]
      refine any_all (rs:=[3]) (by kernel_rfl) (by simp) (fun i hi=>?_)
      simp only [List.mem_cons,List.not_mem_nil,or_false] at hi
      subst hi
      refine ⟨_,rfl,rfl,?_⟩
      refine aop_step rfl rfl (by simp only [WA,simprocAttr];rfl) ?_ ?_
      · (repeat (refine And.intro ?_ ?_)) <;> first | trivial | (simp_all;done)
      simp only [WA,simprocAttr]
      refine any_done (by kernel_rfl) ?_
      refine hK' _ _ ?_
      clear hK' K'
      repeat' (first|(with_reducible apply zz1)|((with_reducible apply zz2);rfl;intro K' hK';simp only [WA,simprocAttr];(repeat (constructor;focus (clear hK';intros;simp_all;done)));(try (apply hK';clear hK' K')))|((with_reducible apply zz3);rfl;all_goals (intro h;try exact absurd h (by decide))))
      (with_reducible refine swp_drawX ?_ ?_ ?_ (⟨⟨[],[]⟩,[(6,(0,([.d (sD s),.d (iD (b : Nat))],.agg [iD xk,sD xfr,sD xto,iD xso,sD xnm,.slc (xls.map sD),.slc (Gt.ds xl)])))],[],[],[],[]⟩) _ rfl (fun K' hK' gops fin hgops hfin=>?_)
       · kernel_rfl
       · rfl
       · rfl
       repeat' first
        | (refine vcX_dead rfl trivial (by simp only [WA,simprocAttr,UX,UA];rfl) (by simp only [List.nil_append,List.cons_append];rfl) (by simp only [zn2];rfl) ?_)
        | (refine vcX_step rfl rfl trivial (by simp only [WA,simprocAttr,UX,UA,hr,List.length_map,hdl,m3,m4,one_max ];rfl) ?_ (by simp only [WA,simprocAttr,UX,UA];rfl) (by simp only [WA,simprocAttr,UX,UA];rfl) (by simp only [List.nil_append,List.cons_append];rfl) (by simp only [zn2];rfl) ?_;focus (first | trivial | ((repeat' apply And.intro) <;> first | trivial | assumption | (clear hK' hfin hgops;intros;simp_all;done))))
       (refine vcX_nil (by subst hfin;kernel_rfl) ?_)
       clear hfin hgops fin gops
       (try (apply hK';clear hK' K')))
      refine ⟨rfl,?_⟩
      refine sub_of h0 ?_ ?_ ?_ <;> simp only [US,WA,simprocAttr]
    · refine ⟨_,rfl,rfl,?_⟩
      refine aop_step rfl rfl (by simp only [WA,simprocAttr];rfl) ?_ ?_
      · (repeat (refine And.intro ?_ ?_)) <;> first | trivial | (simp_all;done)
      simp only [WA,simprocAttr]
      refine any_all (rs:=[1]) (by kernel_rfl) (by simp) (fun i hi=>?_)
      simp only [List.mem_cons,List.not_mem_nil,or_false] at hi
      subst hi
      refine ⟨_,rfl,rfl,?_⟩
      refine aop_step rfl rfl (by simp only [WA,simprocAttr];rfl) ?_ ?_
      · (repeat (refine And.intro ?_ ?_)) <;> first | trivial | (simp_all;done)
      simp only [WA,simprocAttr]
      refine any_all (rs:=[3]) (by kernel_rfl) (by simp) (fun i hi=>?_)
      simp only [List.mem_cons,List.not_mem_nil,or_false] at hi
      subst hi
      refine ⟨_,rfl,rfl,?_⟩
      refine aop_step rfl rfl (by simp only [WA,simprocAttr];rfl) ?_ ?_
      · (repeat (refine And.intro ?_ ?_)) <;> first | trivial | (simp_all;done)
      simp only [WA,simprocAttr]
      refine any_done (by kernel_rfl) ?_
      refine hK' _ _ ?_
      clear hK' K'
      repeat' (first|(with_reducible apply zz1)|((with_reducible apply zz2);rfl;intro K' hK';simp only [WA,simprocAttr];(repeat (constructor;focus (clear hK';intros;simp_all;done)));(try (apply hK';clear hK' K')))|((with_reducible apply zz3);rfl;all_goals (intro h;try exact absurd h (by decide))))
      (with_reducible refine swp_drawX ?_ ?_ ?_ (⟨⟨[],[]⟩,[(5,(0,([.d (sD s),.d (iD (b : Nat))],.agg [iD xk,sD xfr,sD xto,iD xso,sD xnm,.slc (xls.map sD),.slc (Gt.ds xl)])))],[],[],[],[]⟩) _ rfl (fun K' hK' gops fin hgops hfin=>?_)
       · kernel_rfl
       · rfl
       · rfl
       repeat' first
        | (refine vcX_dead rfl trivial (by simp only [WA,simprocAttr,UX,UA];rfl) (by simp only [List.nil_append,List.cons_append];rfl) (by simp only [zn2];rfl) ?_)
        | (refine vcX_step rfl rfl trivial (by simp only [WA,simprocAttr,UX,UA,hr,List.length_map,hdl,m3,m4,one_max ];rfl) ?_ (by simp only [WA,simprocAttr,UX,UA];rfl) (by simp only [WA,simprocAttr,UX,UA];rfl) (by simp only [List.nil_append,List.cons_append];rfl) (by simp only [zn2];rfl) ?_;focus (first | trivial | ((repeat' apply And.intro) <;> first | trivial | assumption | (clear hK' hfin hgops;intros;simp_all;done))))
       (refine vcX_nil (by subst hfin;kernel_rfl) ?_)
       clear hfin hgops fin gops
       (try (apply hK';clear hK' K')))
      repeat' (first|(with_reducible apply zz1)|((with_reducible apply zz2);rfl;intro K' hK';simp only [WA,simprocAttr,Int.toNat_natCast,hi1,hi0,hdl,List.length_append];(repeat (constructor;focus (clear hK';intros;simp_all;done)));(try (apply hK';clear hK' K')))|((with_reducible apply zz3);rfl;all_goals (intro h;try exact absurd h (by decide))))
      refine stop_sE rfl (by simp only [WA,simprocAttr,storeE,setE,dAll,Option.map_some,gget_last,gset_last];rfl) ?_ ?_
      · first | trivial | ((repeat' apply And.intro) <;> first | trivial | assumption | (clear hK';intros;simp_all;done))
      simp only [WA,simprocAttr,gget_last,gset_last]
      (repeat (constructor;focus (clear hK';intros;simp_all;done)))
      (try (apply hK';clear hK' K'))
      refine ⟨rfl,?_⟩
      refine sub_of h0 ?_ ?_ ?_ <;> simp only [US,WA,simprocAttr]
  · repeat' (first|(with_reducible apply zz1)|((with_reducible apply zz2);rfl;intro K' hK';simp only [WA,simprocAttr];(repeat (constructor;focus (clear hK';intros;simp_all;done)));(try (apply hK';clear hK' K')))|((with_reducible apply zz3);rfl;all_goals (intro h;try exact absurd h (by decide))))
    refine stop_cS rfl (by simp only [UA,WA,simprocAttr]) (hie) ?_
    simp only [WA,simprocAttr,UM,Bool.not_true,Bool.not_false,cond_true,cond_false]
    (try (apply hK';clear hK' K'))
    repeat' (first|(with_reducible apply zz1)|((with_reducible apply zz2);rfl;intro K' hK';simp only [WA,simprocAttr,hwe];(repeat (constructor;focus (clear hK';intros;simp_all;done)));(try (apply hK';clear hK' K')))|((with_reducible apply zz3);rfl;all_goals (intro h;try exact absurd h (by decide))))
    refine ⟨((_,_),_),⟨hkl,(by simp only [List.length_append,List.length_cons,List.length_nil];exact hsx6),by simp only [List.length_append,List.length_cons,List.length_nil] at hKL ⊢;rw [hKL],ht⟩,(by show s.size - (e2 + 1) < s.size - a;omega),?_⟩
    refine sub_of h0 ?_ ?_ ?_ <;> simp only [US,WA,simprocAttr,hds,List.map_append,List.map_cons,List.map_nil]
end Go.Proofs.YtlnmkdbcdcknjaaDoor.GG
