/- project.merged; a symbolic walk. -/
-- TYPESA
import Derived.Test.YtdcplkefmpjppaaGreatDoorP5
import Derived.Test.YtdcplkefmpjppaaGreatDoorG6
set_option linter.unusedVariables false
set_option linter.unusedSimpArgs false
namespace Go.Proofs.YtdcplkefmpjppaaGreatDoor.GG
open Go.RowKit Go.Sw
open Nat renaming reduceAdd → zn2

theorem zipO_take {m : Lt → Lt → Option Lt} : ∀ {l l' : List Lt} {j : Nat} {x y : Lt} {r : List Lt},l[j]? = some x → l'[j]? = some y → zipO m (l.take j) (l'.take j) = some r → zipO m (l.take (j + 1)) (l'.take (j + 1)) = match m x y with | some z=>some (r ++ [z]) | none=>none
 | a :: l,b :: l',0,x,y,r,h,h',hr=>by
  simp at h h';subst h h'
  simp only [List.take_zero,zipO] at hr
  cases hr
  simp only [List.take_succ_cons,List.take_zero,zipO]
  cases m a b <;> rfl
 | a :: l,b :: l',j + 1,x,y,r,h,h',hr=>by
  simp only [List.take_succ_cons] at hr ⊢
  unfold zipO at hr ⊢
  cases ha : m a b with
  | none=>rw [ha] at hr;cases hr
  | some z =>
   rw [ha] at hr
   cases hl : zipO m (l.take j) (l'.take j) with
   | none=>rw [hl] at hr;cases hr
   | some ys =>
    rw [hl] at hr
    cases hr
    simp only
    rw [zipO_take (by simpa using h) (by simpa using h') hl]
    cases m x y <;> rfl
theorem zipO_none {m : Lt → Lt → Option Lt} : ∀ {l l' : List Lt} {j : Nat},zipO m (l.take j) (l'.take j) = none → zipO m l l' = none
 | [],l',j,h=>by simp [zipO] at h
 | a :: l,[],j,h=>by cases j <;> simp [zipO] at h
 | a :: l,b :: l',0,h=>by simp [zipO] at h
 | a :: l,b :: l',j + 1,h=>by
  simp only [List.take_succ_cons] at h
  unfold zipO at h ⊢
  cases ha : m a b with
  | none=>rfl
  | some y =>
   rw [ha] at h
   simp only at h ⊢
   cases hl : zipO m (l.take j) (l'.take j) with
   | none=>rw [zipO_none hl]
   | some ys=>rw [hl] at h;cases h
theorem okL_cnt {k so so' : Int} {wi wi' nm nm' : ByteArray} {ls' : List ByteArray} {l l' : List Lt} (ha : OkL (.mk k wi so nm [] l)) (hb : OkL (.mk k wi' so' nm' ls' l')) : l.length = l'.length:=by
 cases ha with
 | nil=>cases hb with
  | nil=>rfl
  | pass _ _ _ _ hk=>omega
  | pick _ _ _ _ hk=>omega
 | pass _ _ _ _ hk=>cases hb with
  | nil=>omega
  | pass=>rfl
  | pick _ _ _ _ hk'=>omega
  | bind=>omega
  | var=>omega
 | pick _ _ _ _ hk _ hl=>exact absurd rfl (labels_ne hl)
 | bind=>cases hb with
  | pass _ _ _ _ hk=>omega
  | pick _ _ _ _ hk=>omega
  | bind=>rfl
 | var=>cases hb with
  | pass _ _ _ _ hk=>omega
  | pick _ _ _ _ hk=>omega
  | var=>rfl
theorem ix_get (s : ByteArray) : ∀ (ls : List ByteArray) (l : List Lt) (j : Nat),ls.length = l.length → (idxS s.toList ls j = -1 ∧ getL ls l s = none) ∨ ∃ i x,idxS s.toList ls j = ((j + i : Nat) : Int) ∧ l[i]? = some x ∧ getL ls l s = some x
 | [],[],j,h=>.inl ⟨rfl,rfl⟩
 | a :: ls,y :: l,j,h=>by
  unfold idxS getL
  by_cases e : s.toList = a.toList
  · rw [if_pos e,if_pos e]
    exact .inr ⟨0,y,by simp,rfl,rfl⟩
  · rw [if_neg e,if_neg e]
    rcases ix_get s ls l (j + 1) (by simpa using h) with h1 | ⟨i,x,h1,h2,h3⟩
    · exact .inl h1
    · exact .inr ⟨i + 1,x,by rw [h1];omega,by simpa using h2,h3⟩
def headNe (k : Int) (wi : ByteArray) (so : Int) (nm : ByteArray) (ls : List ByteArray) (k' : Int) (wi' : ByteArray) (so' : Int) (nm' : ByteArray) (ls' : List ByteArray) : Bool :=
 bif (bif (bif (bif (k != k') then true else !(wi.toList == wi'.toList)) then true else (so != so')) then true else !(nm.toList == nm'.toList)) then true else (bif (k == 6) then !(eqS ls ls') else false)
theorem headNe_iff {k : Int} {wi : ByteArray} {so : Int} {nm : ByteArray} {ls : List ByteArray} {k' : Int} {wi' : ByteArray} {so' : Int} {nm' : ByteArray} {ls' : List ByteArray} :
 headNe k wi so nm ls k' wi' so' nm' ls' = false ↔ (k = k' ∧ wi.toList = wi'.toList ∧ so = so' ∧ nm.toList = nm'.toList ∧ (k = 6 → eqS ls ls' = true)):=by
 unfold headNe
 by_cases h1 : k = k' <;> by_cases h2 : wi.toList = wi'.toList <;> by_cases h3 : so = so' <;> by_cases h4 : nm.toList = nm'.toList <;> by_cases h5 : k = 6 <;> cases eqS ls ls' <;> simp_all
def MgF (Γ : Gl) (a b : Lt) : Option Lt → Prop
 | some x=>DFn Tryz.prog Γ 65 [a.d,b.d] (.tup [x.d,.v (.bool true)])
 | none => ∃ J : Lt,DFn Tryz.prog Γ 65 [a.d,b.d] (.tup [J.d,.v (.bool false)])

set_option maxHeartbeats 16000000 in
set_option maxRecDepth 100000 in
theorem merged_ne (Γ : Gl) (m : Lt → Lt → Option Lt) (k : Int) (wi : ByteArray) (so : Int) (nm : ByteArray) (ls : List ByteArray) (l : List Lt) (k' : Int) (wi' : ByteArray) (so' : Int) (nm' : ByteArray) (ls' : List ByteArray) (l' : List Lt) (ha : OkL (.mk k wi so nm ls l)) (hb : OkL (.mk k' wi' so' nm' ls' l'))
 (hs : DFn Tryz.prog Γ 105 [(Lt.mk k wi so nm ls l).d,(Lt.mk k' wi' so' nm' ls' l').d] (.v (.bool false))) (hn : headNe k wi so nm ls k' wi' so' nm' ls' = true) :
 DFn Tryz.prog Γ 65 [(Lt.mk k wi so nm ls l).d,(Lt.mk k' wi' so' nm' ls' l').d] (.tup [Lt.zero.d,.v (.bool false)]):=by
 have h6:=(okL_kids ha).2.1
 have heS:=equalS_fn Γ ls ls' (by omega)
 simp only [Lt.d,Lt.zero,Lt.ds,List.map_nil] at hs ⊢
 unfold headNe at hn
 refine fn_of_swp (N:=179) Tryz.func65 rfl (by decide) rfl rfl (by simp) (fun C h0=>?_)
 simp only [argE]
 repeat' (first|(with_reducible apply zz1)|((with_reducible apply zz2);rfl;intro K' hK';simp only [WA,simprocAttr];(repeat (constructor;focus (clear hK';intros;simp_all;done)));(try (apply hK';clear hK' K')))|((with_reducible apply zz3);rfl;all_goals (intro h;try exact absurd h (by decide))))
 refine stop_callF rfl (by simp only [WA,simprocAttr]) rfl rfl (hs) ?_
 simp only [WA,simprocAttr,inX,dropS, ]
 (repeat (constructor;focus (clear hK';intros;simp_all;done)))
 (try (apply hK';clear hK' K'))
 repeat' (first|(with_reducible apply zz1)|((with_reducible apply zz2);rfl;intro K' hK';simp only [WA,simprocAttr];(repeat (constructor;focus (clear hK';intros;simp_all;done)));(try (apply hK';clear hK' K')))|((with_reducible apply zz3);rfl;all_goals (intro h;try exact absurd h (by decide))))
 (with_reducible refine swp_regionA ?_ ( [(35,.v (.bool (eqS ls ls')))]) (fun K' hK'=>?_)
  · rfl
  simp only [WA,simprocAttr,UG,heS,List.length_map,Bool.not_true,Bool.not_false ]
  (repeat (constructor;focus (clear hK';intros;simp_all;done)))
  (try (apply hK';clear hK' K')))
 refine kseq_n ?_
 ((with_reducible refine swp_cond ?_ ?_);rfl;refine ⟨_,rfl,fun h=>?_,fun h=>absurd (h.symm.trans hn) (by decide)⟩)
 clear h
 repeat' (first|(with_reducible apply zz1)|((with_reducible apply zz2);rfl;intro K' hK';simp only [WA,simprocAttr];(repeat (constructor;focus (clear hK';intros;simp_all;done)));(try (apply hK';clear hK' K')))|((with_reducible apply zz3);rfl;all_goals (intro h;try exact absurd h (by decide))))
 simp only [Kret,retL,retOne,oneV,WA,simprocAttr]
set_option maxHeartbeats 16000000 in
set_option maxRecDepth 100000 in
theorem merged_zip (Γ : Gl) (m : Lt → Lt → Option Lt) (k : Int) (wi : ByteArray) (so : Int) (nm : ByteArray) (l : List Lt) (ls' : List ByteArray) (l' : List Lt) (ha : OkL (.mk k wi so nm [] l)) (hb : OkL (.mk k wi so nm ls' l'))
 (hs : DFn Tryz.prog Γ 105 [(Lt.mk k wi so nm [] l).d,(Lt.mk k wi so nm ls' l').d] (.v (.bool false))) (hq : (bif (k == 6) then !(eqS [] ls') else false) = false)
 (ih : ∀ x ∈ l, ∀ y ∈ l',MgF Γ x y (m x y)) : MgF Γ (.mk k wi so nm [] l) (.mk k wi so nm ls' l') (match zipO m l l' with | some r=>some (.mk k wi so nm [] r) | none=>none):=by
 have h6:=(okL_kids ha).1
 have hlen:=okL_cnt ha hb
 have heS:=equalS_fn Γ [] ls' (by simp)
 have hll:=Lt.ds_len l
 have hll':=Lt.ds_len l'
 obtain ⟨R,hR⟩ : ∃ R,zipO m l l' = R:=⟨_,rfl⟩
 rw [hR]
 simp only [Lt.d,List.map_nil] at hs heS
 have key : ∃ V : D,DFn Tryz.prog Γ 65 [(Lt.mk k wi so nm [] l).d,(Lt.mk k wi so nm ls' l').d] V ∧ V = (match R with | some r=>.tup [(Lt.mk k wi so nm [] r).d,.v (.bool true)] | none=>.tup [Lt.zero.d,.v (.bool false)]):=by
  refine ⟨_,?_,rfl⟩
  simp only [Lt.d,List.map_nil]
  refine fn_of_swp (N:=179) Tryz.func65 rfl (by decide) rfl rfl (by simp) (fun C h0=>?_)
  simp only [argE]
  repeat' (first|(with_reducible apply zz1)|((with_reducible apply zz2);rfl;intro K' hK';simp only [WA,simprocAttr];(repeat (constructor;focus (clear hK';intros;simp_all;done)));(try (apply hK';clear hK' K')))|((with_reducible apply zz3);rfl;all_goals (intro h;try exact absurd h (by decide))))
  refine stop_callF rfl (by simp only [WA,simprocAttr]) rfl rfl (hs) ?_
  simp only [WA,simprocAttr,inX,dropS, ]
  (repeat (constructor;focus (clear hK';intros;simp_all;done)))
  (try (apply hK';clear hK' K'))
  repeat' (first|(with_reducible apply zz1)|((with_reducible apply zz2);rfl;intro K' hK';simp only [WA,simprocAttr];(repeat (constructor;focus (clear hK';intros;simp_all;done)));(try (apply hK';clear hK' K')))|((with_reducible apply zz3);rfl;all_goals (intro h;try exact absurd h (by decide))))
  (with_reducible refine swp_regionA ?_ ( [(35,.v (.bool (eqS [] ls')))]) (fun K' hK'=>?_)
   · rfl
   simp only [WA,simprocAttr,UG,heS,List.length_map,bne_self_eq_false,beq_self_eq_true,Bool.not_true,Bool.not_false,cond_true,cond_false,hq ]
   (repeat (constructor;focus (clear hK';intros;simp_all;done)))
   (try (apply hK';clear hK' K')))
  repeat' (first|(with_reducible apply zz1)|((with_reducible apply zz2);rfl;intro K' hK';simp only [WA,simprocAttr,hll];(repeat (constructor;focus (clear hK';intros;simp_all;done)));(try (apply hK';clear hK' K')))|((with_reducible apply zz3);rfl;all_goals (intro h;try exact absurd h (by decide))))
  refine swp_nilB 3 5 4 6 rfl rfl rfl (by decide) ?_
  simp only [WA,simprocAttr]
  refine swp_loop (α := Nat × List Lt) (fun q=>[(2,.ref 0 0),(3,.ref 1 0),(4,.ref 2 0),(6,.ref 3 0),(76,.d (iD l.length)),(77,.d (iD q.1))])
   (fun q=>[(0,.cells [.d (iD k),.d (sD wi),.d (iD so),.d (sD nm),.d (.slc []),.d (.slc (Lt.ds l))]),(1,.cells [.d (iD k),.d (sD wi),.d (iD so),.d (sD nm),.d (.slc (ls'.map sD)),.d (.slc (Lt.ds l'))]),(2,.cells [.d (iD 0),.d (sD noB),.d (iD 0),.d (sD noB),.nil,.nil]),(3,.cells [.d (iD k),.d (sD wi),.d (iD so),.d (sD nm),.nil,.own 4]),(4,.row 6 (Lt.ds q.2))])
   (fun q=>q.1 ≤ l.length ∧ q.2.length = q.1 ∧ zipO m (l.take q.1) (l'.take q.1) = some q.2) (fun q=>l.length - q.1) (0,[]) ⟨Nat.zero_le _,rfl,rfl⟩ (by refine sub_of h0 ?_ ?_ ?_ <;> simp only [US,WA,simprocAttr,hll,Lt.ds]) (fun q hj=>?_)
  obtain ⟨j,r⟩:=q
  obtain ⟨hj,hrl,hz⟩:=hj
  simp only at hj hrl hz
  have hb0 : (0 : Int) ≤ (j : Int):=by omega
  have hrd : (Lt.ds r).length = j:=by rw [Lt.ds_len,hrl]
  by_cases hlt : j < l.length
  · obtain ⟨x,hx⟩ : ∃ x,l[j]? = some x:=⟨l[j],by simp [hlt]⟩
    obtain ⟨y,hy⟩ : ∃ y,l'[j]? = some y:=⟨l'[j]'(by omega),by simp⟩
    have hgx:=Lt.ds_get l j x hx
    have hgy:=Lt.ds_get l' j y hy
    have hcall:=ih x (List.mem_of_getElem? hx) y (List.mem_of_getElem? hy)
    have hb1 : (j : Int) < (l.length : Int):=by omega
    have hb2 : (j : Int) < (l'.length : Int):=by omega
    have hw3 : IntKind.i64.wrap ((j : Int) + 1) = ((j + 1 : Nat) : Int):=by rw [wrap_in (by omega) (by omega)];omega
    have hst:=zipO_take hx hy hz
    have m1 : (j + 1) * 96 ≤ 140737488355328:=by omega
    have m2 : j + 1 ≤ maxLen:=by unfold maxLen;omega
    generalize m x y = M at *
    cases M with
    | some z =>
     have hcall : DFn Tryz.prog Γ 65 [x.d,y.d] (.tup [z.d,.v (.bool true)]):=hcall
     have hap : Lt.ds r ++ [z.d] = Lt.ds (r ++ [z]):=by rw [Lt.ds_app];rfl
     obtain ⟨xk,xw,xs,xn,xls,xl⟩:=x
     obtain ⟨yk,yw,ys,yn,yls,yl⟩:=y
     obtain ⟨zk,zw,zs,zn,zls,zl⟩:=z
     simp only [Lt.d] at hgx hgy hcall hap
     repeat' (first|(with_reducible apply zz1)|((with_reducible apply zz2);rfl;intro K' hK';simp only [WA,simprocAttr,hb1,Int.toNat_natCast];(repeat (constructor;focus (clear hK';intros;simp_all;done)));(try (apply hK';clear hK' K')))|((with_reducible apply zz3);rfl;all_goals (intro h;try exact absurd h (by decide))))
     (with_reducible refine swp_drawX ?_ ?_ ?_ (⟨⟨[(10,.tup [.agg [iD zk,sD zw,iD zs,sD zn,.slc (zls.map sD),.slc (Lt.ds zl)],.v (.bool true)])],[]⟩,[],[],[],[]⟩) _ rfl (fun K' hK' gops fin hgops hfin=>?_)
      · kernel_rfl
      · rfl
      · rfl
      repeat' first
       | (refine vcX_dead rfl trivial (by simp only [WA,simprocAttr,UX,UA];rfl) (by simp only [List.nil_append,List.cons_append];rfl) (by simp only [zn2];rfl) ?_)
       | (refine vcX_step rfl rfl trivial (by simp only [WA,simprocAttr,UX,UA,hcall,hgx,hgy,hb0,hb1,hb2,hll,hll',Int.toNat_natCast ];rfl) ?_ (by simp only [WA,simprocAttr,UX,UA];rfl) (by simp only [WA,simprocAttr,UX,UA];rfl) (by simp only [List.nil_append,List.cons_append];rfl) (by simp only [zn2];rfl) ?_;focus (first | trivial | ((repeat' apply And.intro) <;> first | trivial | assumption | (clear hK' hfin hgops;intros;simp_all;done))))
      (refine vcX_nil (by subst hfin;kernel_rfl) ?_)
      clear hfin hgops fin gops
      (try (apply hK';clear hK' K')))
     repeat' (first|(with_reducible apply zz1)|((with_reducible apply zz2);rfl;intro K' hK';simp only [WA,simprocAttr,Bool.not_true,hrd,m1,m2,hw3];(repeat (constructor;focus (clear hK';intros;simp_all;done)));(try (apply hK';clear hK' K')))|((with_reducible apply zz3);rfl;all_goals (intro h;try exact absurd h (by decide))))
     refine ⟨(j + 1,r ++ [.mk zk zw zs zn zls zl]),⟨(by show j + 1 ≤ l.length;omega),(by simp [hrl]),hst⟩,(by show l.length - (j + 1) < l.length - j;omega),by simp only [← hap];refine sub_of h0 ?_ ?_ ?_ <;> simp only [US,WA,simprocAttr]⟩
    | none =>
     obtain ⟨J,hcall⟩ : ∃ J : Lt,DFn Tryz.prog Γ 65 [x.d,y.d] (.tup [J.d,.v (.bool false)]):=hcall
     have hR2 : R = none:=by rw [← hR];exact zipO_none hst
     subst hR2
     obtain ⟨xk,xw,xs,xn,xls,xl⟩:=x
     obtain ⟨yk,yw,ys,yn,yls,yl⟩:=y
     obtain ⟨zk,zw,zs,zn,zls,zl⟩:=J
     simp only [Lt.d] at hgx hgy hcall
     simp only [Lt.zero,Lt.d,Lt.ds,List.map_nil]
     repeat' (first|(with_reducible apply zz1)|((with_reducible apply zz2);rfl;intro K' hK';simp only [WA,simprocAttr,hb1,Int.toNat_natCast];(repeat (constructor;focus (clear hK';intros;simp_all;done)));(try (apply hK';clear hK' K')))|((with_reducible apply zz3);rfl;all_goals (intro h;try exact absurd h (by decide))))
     (with_reducible refine swp_drawX ?_ ?_ ?_ (⟨⟨[(10,.tup [.agg [iD zk,sD zw,iD zs,sD zn,.slc (zls.map sD),.slc (Lt.ds zl)],.v (.bool false)])],[]⟩,[],[],[],[]⟩) _ rfl (fun K' hK' gops fin hgops hfin=>?_)
      · kernel_rfl
      · rfl
      · rfl
      repeat' first
       | (refine vcX_dead rfl trivial (by simp only [WA,simprocAttr,UX,UA];rfl) (by simp only [List.nil_append,List.cons_append];rfl) (by simp only [zn2];rfl) ?_)
       | (refine vcX_step rfl rfl trivial (by simp only [WA,simprocAttr,UX,UA,hcall,hgx,hgy,hb0,hb1,hb2,hll,hll',Int.toNat_natCast ];rfl) ?_ (by simp only [WA,simprocAttr,UX,UA];rfl) (by simp only [WA,simprocAttr,UX,UA];rfl) (by simp only [List.nil_append,List.cons_append];rfl) (by simp only [zn2];rfl) ?_;focus (first | trivial | ((repeat' apply And.intro) <;> first | trivial | assumption | (clear hK' hfin hgops;intros;simp_all;done))))
      (refine vcX_nil (by subst hfin;kernel_rfl) ?_)
      clear hfin hgops fin gops
      (try (apply hK';clear hK' K')))
     repeat' (first|(with_reducible apply zz1)|((with_reducible apply zz2);rfl;intro K' hK';simp only [WA,simprocAttr,Bool.not_false];(repeat (constructor;focus (clear hK';intros;simp_all;done)));(try (apply hK';clear hK' K')))|((with_reducible apply zz3);rfl;all_goals (intro h;try exact absurd h (by decide))))
     simp only [Kret,retL,retOne,oneV,WA,simprocAttr]
  · have hb1 : ¬ (j : Int) < (l.length : Int):=by omega
    have hR2 : R = some r:=by
     rw [List.take_of_length_le (by omega),List.take_of_length_le (by omega),hR] at hz
     exact hz
    subst hR2
    simp only [Lt.d,List.map_nil]
    repeat' (first|(with_reducible apply zz1)|((with_reducible apply zz2);rfl;intro K' hK';simp only [WA,simprocAttr,hb1];(repeat (constructor;focus (clear hK';intros;simp_all;done)));(try (apply hK';clear hK' K')))|((with_reducible apply zz3);rfl;all_goals (intro h;try exact absurd h (by decide))))
    simp only [Kret,retL,retOne,oneV,WA,simprocAttr]
 obtain ⟨V,hV,rfl⟩:=key
 cases R with
 | some r=>exact hV
 | none=>exact ⟨_,hV⟩
set_option maxHeartbeats 16000000 in
set_option maxRecDepth 100000 in
theorem merged_lab (Γ : Gl) (m : Lt → Lt → Option Lt) (k : Int) (wi : ByteArray) (so : Int) (nm : ByteArray) (ls : List ByteArray) (l : List Lt) (ls' : List ByteArray) (l' : List Lt) (hk : k = 6 ∨ k = 7) (ha : OkL (.mk k wi so nm ls l)) (hb : OkL (.mk k wi so nm ls' l'))
 (hs : DFn Tryz.prog Γ 105 [(Lt.mk k wi so nm ls l).d,(Lt.mk k wi so nm ls' l').d] (.v (.bool false))) (hq : (bif (k == 6) then !(eqS ls ls') else false) = false)
 (ih : ∀ x ∈ l, ∀ y ∈ l',MgF Γ x y (m x y)) : MgF Γ (.mk k wi so nm ls l) (.mk k wi so nm ls' l') (match allO (fun s=>omM m (getL ls l s) (getL ls' l' s)) (uniL ls ls') with | some r=>if (uniL ls ls').length ≤ 6 then some (.mk k wi so nm (uniL ls ls') r) else none | none=>none):=by
 obtain ⟨-,hla,hna, -⟩:=okL_pick ha hk
 obtain ⟨-,hlb,hnb, -⟩:=okL_pick hb hk
 have h6a:=labels_len hla
 have h6b:=labels_len hlb
 have hea : ((ls.length : Int) == 0) = false:=by
  have:=labels_pos hla
  simpa using (by omega : (ls.length : Int) ≠ 0)
 have hcl:=cloneS_fn Γ ls (by omega)
 have hll:=Lt.ds_len l
 have hll':=Lt.ds_len l'
 have hcl3 : ls.length + ls'.length ≤ 12:=by omega
 have q1 : (ls.length + ls'.length) * 16 ≤ 140737488355328:=by omega
 have q2 : ls.length + ls'.length ≤ maxLen:=by unfold maxLen;omega
 have hU : uniL ls ls' = compS (sortS (ls ++ ls')):=rfl
 have hU12 : (uniL ls ls').length ≤ 12:=by
  rw [hU]
  have:=compS_len (sortS (ls ++ ls'))
  rw [sortS_len,List.length_append] at this
  omega
 have hco : SFn Tryz.prog Γ 37 [.own 6] [(6,.row 1 ((sortS (ls ++ ls')).map sD))] (.own 6) [(6,.row 1 ((uniL ls ls').map sD))]:=(compS_fn Γ (sortS (ls ++ ls')) (by rw [sortS_len,List.length_append];omega)).up 6
 have hUm : ∀ s,s ∈ uniL ls ls' → s ∈ ls ∨ s ∈ ls':=fun s hs=>uni_mem.1 hs
 generalize uniL ls ls' = U at *
 clear hU
 obtain ⟨R,hR⟩ : ∃ R,allO (fun s=>omM m (getL ls l s) (getL ls' l' s)) U = R:=⟨_,rfl⟩
 rw [hR]
 obtain ⟨b0,bs,rfl⟩ : ∃ b0 bs,ls' = b0 :: bs:=by
  match ls',labels_ne hlb with
  | b0 :: bs,_=>exact ⟨b0,bs,rfl⟩
 have hfit : ∀ d ∈ (b0 :: bs).map sD,D.fits 1 d:=by
  intro d hd
  obtain ⟨y, -,rfl⟩:=List.mem_map.1 hd
  exact ⟨rfl,trivial⟩
 simp only [List.map_cons] at hfit
 simp only [List.length_cons] at q1 q2 hcl3
 have heS:=equalS_fn Γ ls (b0 :: bs) (by omega)
 simp only [List.map_cons] at heS
 simp only [Lt.d,List.map_cons] at hs
 have key : ∃ V : D,DFn Tryz.prog Γ 65 [(Lt.mk k wi so nm ls l).d,(Lt.mk k wi so nm (b0 :: bs) l').d] V ∧ V = (match R with | some r=>.tup [(Lt.mk k wi so nm U r).d,.v (.bool (decide (U.length ≤ 6)))] | none=>.tup [Lt.zero.d,.v (.bool false)]):=by
  refine ⟨_,?_,rfl⟩
  simp only [Lt.d,List.map_cons]
  refine fn_of_swp (N:=179) Tryz.func65 rfl (by decide) rfl rfl (by simp) (fun C h0=>?_)
  simp only [argE]
  repeat' (first|(with_reducible apply zz1)|((with_reducible apply zz2);rfl;intro K' hK';simp only [WA,simprocAttr];(repeat (constructor;focus (clear hK';intros;simp_all;done)));(try (apply hK';clear hK' K')))|((with_reducible apply zz3);rfl;all_goals (intro h;try exact absurd h (by decide))))
  refine stop_callF rfl (by simp only [WA,simprocAttr]) rfl rfl (hs) ?_
  simp only [WA,simprocAttr,inX,dropS, ]
  (repeat (constructor;focus (clear hK';intros;simp_all;done)))
  (try (apply hK';clear hK' K'))
  repeat' (first|(with_reducible apply zz1)|((with_reducible apply zz2);rfl;intro K' hK';simp only [WA,simprocAttr];(repeat (constructor;focus (clear hK';intros;simp_all;done)));(try (apply hK';clear hK' K')))|((with_reducible apply zz3);rfl;all_goals (intro h;try exact absurd h (by decide))))
  (with_reducible refine swp_regionA ?_ ( [(35,.v (.bool (eqS ls (b0 :: bs))))]) (fun K' hK'=>?_)
   · rfl
   simp only [WA,simprocAttr,UG,heS,List.length_map,bne_self_eq_false,beq_self_eq_true,Bool.not_true,Bool.not_false,cond_true,cond_false,hq ]
   (repeat (constructor;focus (clear hK';intros;simp_all;done)))
   (try (apply hK';clear hK' K')))
  repeat' (first|(with_reducible apply zz1)|((with_reducible apply zz2);rfl;intro K' hK';simp only [WA,simprocAttr,hea,List.length_map];(repeat (constructor;focus (clear hK';intros;simp_all;done)));(try (apply hK';clear hK' K')))|((with_reducible apply zz3);rfl;all_goals (intro h;try exact absurd h (by decide))))
  (with_reducible refine swp_drawX ?_ ?_ ?_ (⟨⟨[],[(2,(1,ls.map sD))]⟩,[],[],[],[]⟩) _ rfl (fun K' hK' gops fin hgops hfin=>?_)
   · kernel_rfl
   · rfl
   · rfl
   repeat' first
    | (refine vcX_dead rfl trivial (by simp only [WA,simprocAttr,UX,UA];rfl) (by simp only [List.nil_append,List.cons_append];rfl) (by simp only [zn2];rfl) ?_)
    | (refine vcX_step rfl rfl trivial (by simp only [WA,simprocAttr,UX,UA,hcl,q1,q2,hfit,List.length_map ];rfl) ?_ (by simp only [WA,simprocAttr,UX,UA];rfl) (by simp only [WA,simprocAttr,UX,UA];rfl) (by simp only [List.nil_append,List.cons_append];rfl) (by simp only [zn2];rfl) ?_;focus (first | trivial | ((repeat' apply And.intro) <;> first | trivial | assumption | (clear hK' hfin hgops;intros;simp_all;done))))
   (refine vcX_nil (by subst hfin;kernel_rfl) ?_)
   clear hfin hgops fin gops
   (try (apply hK';clear hK' K')))
  repeat' (first|(with_reducible apply zz1)|((with_reducible apply zz2);rfl;intro K' hK';simp only [WA,simprocAttr];(repeat (constructor;focus (clear hK';intros;simp_all;done)));(try (apply hK';clear hK' K')))|((with_reducible apply zz3);rfl;all_goals (intro h;try exact absurd h (by decide))))
  refine stop_sort (ls ++ b0 :: bs) rfl rfl (by rw [List.map_append,List.map_cons];rfl) (by rw [List.length_append,List.length_cons];omega) ?_
  simp only [WA,simprocAttr]
  refine hK' _ _ ?_
  clear hK' K'
  repeat' (first|(with_reducible apply zz1)|((with_reducible apply zz2);rfl;intro K' hK';simp only [WA,simprocAttr];(repeat (constructor;focus (clear hK';intros;simp_all;done)));(try (apply hK';clear hK' K')))|((with_reducible apply zz3);rfl;all_goals (intro h;try exact absurd h (by decide))))
  refine stop_cS rfl (by simp only [UA,WA,simprocAttr]) (hco ) ?_
  simp only [WA,simprocAttr,UM,  List.length_map]
  (try (apply hK';clear hK' K'))
  repeat' (first|(with_reducible apply zz1)|((with_reducible apply zz2);rfl;intro K' hK';simp only [WA,simprocAttr,List.length_map];(repeat (constructor;focus (clear hK';intros;simp_all;done)));(try (apply hK';clear hK' K')))|((with_reducible apply zz3);rfl;all_goals (intro h;try exact absurd h (by decide))))
  refine swp_frz [6] h0 (by simp only [Option.isSome_some,UF,WA,simprocAttr]) ?_
  simp only [WA,simprocAttr,UF]
  refine swp_nilB 3 4 7 1 rfl rfl rfl (by decide) ?_
  simp only [WA,simprocAttr]
  refine swp_nilB 3 5 8 6 rfl rfl rfl (by decide) ?_
  simp only [WA,simprocAttr]
  refine swp_loop (α := Nat × List Lt) (fun q=>[(2,.ref 0 0),(3,.ref 1 0),(4,.ref 2 0),(6,.ref 3 0),(114,.d (.slc (U.map sD))),(115,.d (iD U.length)),(116,.d (iD q.1))])
   (fun q=>[(0,.cells [.d (iD k),.d (sD wi),.d (iD so),.d (sD nm),.d (.slc (ls.map sD)),.d (.slc (Lt.ds l))]),(1,.cells [.d (iD k),.d (sD wi),.d (iD so),.d (sD nm),.d (.slc (sD b0 :: bs.map sD)),.d (.slc (Lt.ds l'))]),(2,.cells [.d (iD 0),.d (sD noB),.d (iD 0),.d (sD noB),.nil,.nil]),(3,.cells [.d (iD k),.d (sD wi),.d (iD so),.d (sD nm),.own 7,.own 8]),(7,.row 1 ((U.take q.1).map sD)),(8,.row 6 (Lt.ds q.2))])
   (fun q=>q.1 ≤ U.length ∧ q.2.length = q.1 ∧ allO (fun s=>omM m (getL ls l s) (getL (b0 :: bs) l' s)) (U.take q.1) = some q.2) (fun q=>U.length - q.1) (0,[]) ⟨Nat.zero_le _,rfl,rfl⟩ (by refine sub_of h0 ?_ ?_ ?_ <;> simp only [US,WA,simprocAttr,List.length_map,Lt.ds]) (fun q hj=>?_)
  obtain ⟨j,r⟩:=q
  obtain ⟨hj,hrl,hz⟩:=hj
  simp only at hj hrl hz
  have hb0 : (0 : Int) ≤ (j : Int):=by omega
  have hrd : (Lt.ds r).length = j:=by rw [Lt.ds_len,hrl]
  by_cases hlt : j < U.length
  · obtain ⟨s, hs'⟩ : ∃ s,U[j]? = some s:=⟨U[j],by simp [hlt]⟩
    have hgs : (U.map sD).getD j default = sD s:=by simp [List.getD,hs']
    have hb1 : (j : Int) < (U.length : Int):=by omega
    have hw3 : IntKind.i64.wrap ((j : Int) + 1) = ((j + 1 : Nat) : Int):=by rw [wrap_in (by omega) (by omega)];omega
    have hst:=allO_take hs' hz
    have hin:=hUm s (List.mem_of_getElem? hs')
    have hx1:=indexS_fn Γ ls s (by omega)
    have hx2:=indexS_fn Γ (b0 :: bs) s (by omega)
    have m1 : (j + 1) * 16 ≤ 140737488355328:=by omega
    have m2 : (j + 1) * 96 ≤ 140737488355328:=by omega
    have m3 : j + 1 ≤ maxLen:=by unfold maxLen;omega
    have hlt1 : ((U.take j).map sD).length = j:=by rw [List.length_map,List.length_take];omega
    have hap1 : (U.take j).map sD ++ [sD s] = (U.take (j + 1)).map sD:=by rw [List.take_add_one,hs'];simp
    simp only [List.map_cons] at hx2
    have hc1:=ix_get s ls l 0 hna.symm
    have hc2:=ix_get s (b0 :: bs) l' 0 hnb.symm
    have nomem1:=(getL_none (s:=s) hna.symm)
    have nomem2:=(getL_none (s:=s) hnb.symm)
    have ihk:=fun x y (h1 : getL ls l s = some x) (h2 : getL (b0 :: bs) l' s = some y)=>ih x (getL_mem h1) y (getL_mem h2)
    generalize getL ls l s = A at *
    generalize getL (b0 :: bs) l' s = B at *
    generalize idxS s.toList ls 0 = i1 at *
    generalize idxS s.toList (b0 :: bs) 0 = i2 at *
    repeat' (first|(with_reducible apply zz1)|((with_reducible apply zz2);rfl;intro K' hK';simp only [WA,simprocAttr,Int.toNat_natCast,hgs,List.length_map,hb0,hb1];(repeat (constructor;focus (clear hK';intros;simp_all;done)));(try (apply hK';clear hK' K')))|((with_reducible apply zz3);rfl;all_goals (intro h;try exact absurd h (by decide))))
    (with_reducible refine swp_draw ?_ ?_ ?_ ( [(3,iD i1),(7,iD i2)]) (fun K' hK'=>?_)
     · kernel_rfl
     · rfl
     · rfl
     simp only [WA,simprocAttr,UG,hx1,hx2,List.length_map ]
     (try (apply hK';clear hK' K')))
    clear hx1 hx2
    rcases hc1 with ⟨rfl,rfl⟩ | ⟨n1,x,rfl,hx,rfl⟩
    · rcases hc2 with ⟨rfl,rfl⟩ | ⟨n2,y,rfl,hy,rfl⟩
      · exfalso
        rcases hin with q | q
        · exact nomem1.1 rfl q
        · exact nomem2.1 rfl q
      have hst : allO (fun s=>omM m (getL ls l s) (getL (b0 :: bs) l' s)) (U.take (j + 1)) = some (r ++ [y]):=hst
      have hap : Lt.ds r ++ [y.d] = Lt.ds (r ++ [y]):=by rw [Lt.ds_app];rfl
      have hgy:=Lt.ds_get l' n2 y hy
      have hc1 : (0 : Int) ≤ (n2 : Int):=by omega
      have hc2 : (n2 : Int) < (l'.length : Int):=by have:=(List.getElem?_eq_some_iff.1 hy).1;omega
      obtain ⟨zk,zw,zs,zn,zls,zl⟩:=y
      simp only [Lt.d] at hgy hap
      rw [Nat.zero_add]
      repeat' (first|(with_reducible apply zz1)|((with_reducible apply zz2);rfl;intro K' hK';simp only [WA,simprocAttr,Int.toNat_natCast,hll',hc1,hc2,hgy,Bool.not_true];(repeat (constructor;focus (clear hK';intros;simp_all;done)));(try (apply hK';clear hK' K')))|((with_reducible apply zz3);rfl;all_goals (intro h;try exact absurd h (by decide))))
      (with_reducible refine swp_drawX ?_ ?_ ?_ (⟨⟨[],[]⟩,[],[],[],[]⟩) _ rfl (fun K' hK' gops fin hgops hfin=>?_)
       · kernel_rfl
       · rfl
       · rfl
       repeat' first
        | (refine vcX_dead rfl trivial (by simp only [WA,simprocAttr,UX,UA];rfl) (by simp only [List.nil_append,List.cons_append];rfl) (by simp only [zn2];rfl) ?_)
        | (refine vcX_step rfl rfl trivial (by simp only [WA,simprocAttr,UX,UA,hlt1,hrd,m1,m2,m3 ];rfl) ?_ (by simp only [WA,simprocAttr,UX,UA];rfl) (by simp only [WA,simprocAttr,UX,UA];rfl) (by simp only [List.nil_append,List.cons_append];rfl) (by simp only [zn2];rfl) ?_;focus (first | trivial | ((repeat' apply And.intro) <;> first | trivial | assumption | (clear hK' hfin hgops;intros;simp_all;done))))
       (refine vcX_nil (by subst hfin;kernel_rfl) ?_)
       clear hfin hgops fin gops
       (try (apply hK';clear hK' K')))
      repeat' (first|(with_reducible apply zz1)|((with_reducible apply zz2);rfl;intro K' hK';simp only [WA,simprocAttr,hw3];(repeat (constructor;focus (clear hK';intros;simp_all;done)));(try (apply hK';clear hK' K')))|((with_reducible apply zz3);rfl;all_goals (intro h;try exact absurd h (by decide))))
      refine ⟨(j + 1,r ++ [.mk zk zw zs zn zls zl]),⟨(by show j + 1 ≤ U.length;omega),(by simp [hrl]),hst⟩,(by show U.length - (j + 1) < U.length - j;omega),by simp only [← hap, ← hap1];refine sub_of h0 ?_ ?_ ?_ <;> simp only [US,WA,simprocAttr]⟩
    · have hgx:=Lt.ds_get l n1 x hx
      have hd1 : (0 : Int) ≤ (n1 : Int):=by omega
      have hd2 : (n1 : Int) < (l.length : Int):=by have:=(List.getElem?_eq_some_iff.1 hx).1;omega
      have hd3 : ¬ (n1 : Int) < 0:=by omega
      rw [Nat.zero_add]
      rcases hc2 with ⟨rfl,rfl⟩ | ⟨n2,y,rfl,hy,rfl⟩
      · have hst : allO (fun s=>omM m (getL ls l s) (getL (b0 :: bs) l' s)) (U.take (j + 1)) = some (r ++ [x]):=hst
        have hap : Lt.ds r ++ [x.d] = Lt.ds (r ++ [x]):=by rw [Lt.ds_app];rfl
        obtain ⟨zk,zw,zs,zn,zls,zl⟩:=x
        simp only [Lt.d] at hgx hap
        repeat' (first|(with_reducible apply zz1)|((with_reducible apply zz2);rfl;intro K' hK';simp only [WA,simprocAttr,Int.toNat_natCast,hll,hd1,hd2,hd3,hgx,Bool.not_true];(repeat (constructor;focus (clear hK';intros;simp_all;done)));(try (apply hK';clear hK' K')))|((with_reducible apply zz3);rfl;all_goals (intro h;try exact absurd h (by decide))))
        (with_reducible refine swp_drawX ?_ ?_ ?_ (⟨⟨[],[]⟩,[],[],[],[]⟩) _ rfl (fun K' hK' gops fin hgops hfin=>?_)
         · kernel_rfl
         · rfl
         · rfl
         repeat' first
          | (refine vcX_dead rfl trivial (by simp only [WA,simprocAttr,UX,UA];rfl) (by simp only [List.nil_append,List.cons_append];rfl) (by simp only [zn2];rfl) ?_)
          | (refine vcX_step rfl rfl trivial (by simp only [WA,simprocAttr,UX,UA,hlt1,hrd,m1,m2,m3 ];rfl) ?_ (by simp only [WA,simprocAttr,UX,UA];rfl) (by simp only [WA,simprocAttr,UX,UA];rfl) (by simp only [List.nil_append,List.cons_append];rfl) (by simp only [zn2];rfl) ?_;focus (first | trivial | ((repeat' apply And.intro) <;> first | trivial | assumption | (clear hK' hfin hgops;intros;simp_all;done))))
         (refine vcX_nil (by subst hfin;kernel_rfl) ?_)
         clear hfin hgops fin gops
         (try (apply hK';clear hK' K')))
        repeat' (first|(with_reducible apply zz1)|((with_reducible apply zz2);rfl;intro K' hK';simp only [WA,simprocAttr,hw3];(repeat (constructor;focus (clear hK';intros;simp_all;done)));(try (apply hK';clear hK' K')))|((with_reducible apply zz3);rfl;all_goals (intro h;try exact absurd h (by decide))))
        refine ⟨(j + 1,r ++ [.mk zk zw zs zn zls zl]),⟨(by show j + 1 ≤ U.length;omega),(by simp [hrl]),hst⟩,(by show U.length - (j + 1) < U.length - j;omega),by simp only [← hap, ← hap1];refine sub_of h0 ?_ ?_ ?_ <;> simp only [US,WA,simprocAttr]⟩
      · have hgy:=Lt.ds_get l' n2 y hy
        have hc1 : (0 : Int) ≤ (n2 : Int):=by omega
        have hc2 : (n2 : Int) < (l'.length : Int):=by have:=(List.getElem?_eq_some_iff.1 hy).1;omega
        have hc3 : ¬ (n2 : Int) < 0:=by omega
        have hcall:=ihk x y rfl rfl
        rw [Nat.zero_add]
        have hst : allO (fun s=>omM m (getL ls l s) (getL (b0 :: bs) l' s)) (U.take (j + 1)) = match m x y with | some z=>some (r ++ [z]) | none=>none:=hst
        clear ih ihk
        generalize m x y = M at *
        cases M with
        | some z =>
         have hcall : DFn Tryz.prog Γ 65 [x.d,y.d] (.tup [z.d,.v (.bool true)]):=hcall
         have hap : Lt.ds r ++ [z.d] = Lt.ds (r ++ [z]):=by rw [Lt.ds_app];rfl
         obtain ⟨xk,xw,xs,xn,xls,xl⟩:=x
         obtain ⟨yk,yw,ys,yn,yls,yl⟩:=y
         obtain ⟨zk,zw,zs,zn,zls,zl⟩:=z
         simp only [Lt.d] at hgx hgy hcall hap
         repeat' (first|(with_reducible apply zz1)|((with_reducible apply zz2);rfl;intro K' hK';simp only [WA,simprocAttr,hc3,hd3];(repeat (constructor;focus (clear hK';intros;simp_all;done)));(try (apply hK';clear hK' K')))|((with_reducible apply zz3);rfl;all_goals (intro h;try exact absurd h (by decide))))
         (with_reducible refine swp_drawX ?_ ?_ ?_ (⟨⟨[(10,.tup [.agg [iD zk,sD zw,iD zs,sD zn,.slc (zls.map sD),.slc (Lt.ds zl)],.v (.bool true)])],[]⟩,[],[],[],[]⟩) _ rfl (fun K' hK' gops fin hgops hfin=>?_)
          · kernel_rfl
          · rfl
          · rfl
          repeat' first
           | (refine vcX_dead rfl trivial (by simp only [WA,simprocAttr,UX,UA];rfl) (by simp only [List.nil_append,List.cons_append];rfl) (by simp only [zn2];rfl) ?_)
           | (refine vcX_step rfl rfl trivial (by simp only [WA,simprocAttr,UX,UA,hcall,hgx,hgy,hd1,hd2,hc1,hc2,hll,hll',Int.toNat_natCast ];rfl) ?_ (by simp only [WA,simprocAttr,UX,UA];rfl) (by simp only [WA,simprocAttr,UX,UA];rfl) (by simp only [List.nil_append,List.cons_append];rfl) (by simp only [zn2];rfl) ?_;focus (first | trivial | ((repeat' apply And.intro) <;> first | trivial | assumption | (clear hK' hfin hgops;intros;simp_all;done))))
          (refine vcX_nil (by subst hfin;kernel_rfl) ?_)
          clear hfin hgops fin gops
          (try (apply hK';clear hK' K')))
         repeat' (first|(with_reducible apply zz1)|((with_reducible apply zz2);rfl;intro K' hK';simp only [WA,simprocAttr,Bool.not_true];(repeat (constructor;focus (clear hK';intros;simp_all;done)));(try (apply hK';clear hK' K')))|((with_reducible apply zz3);rfl;all_goals (intro h;try exact absurd h (by decide))))
         (with_reducible refine swp_drawX ?_ ?_ ?_ (⟨⟨[],[]⟩,[],[],[],[]⟩) _ rfl (fun K' hK' gops fin hgops hfin=>?_)
          · kernel_rfl
          · rfl
          · rfl
          repeat' first
           | (refine vcX_dead rfl trivial (by simp only [WA,simprocAttr,UX,UA];rfl) (by simp only [List.nil_append,List.cons_append];rfl) (by simp only [zn2];rfl) ?_)
           | (refine vcX_step rfl rfl trivial (by simp only [WA,simprocAttr,UX,UA,hlt1,hrd,m1,m2,m3 ];rfl) ?_ (by simp only [WA,simprocAttr,UX,UA];rfl) (by simp only [WA,simprocAttr,UX,UA];rfl) (by simp only [List.nil_append,List.cons_append];rfl) (by simp only [zn2];rfl) ?_;focus (first | trivial | ((repeat' apply And.intro) <;> first | trivial | assumption | (clear hK' hfin hgops;intros;simp_all;done))))
          (refine vcX_nil (by subst hfin;kernel_rfl) ?_)
          clear hfin hgops fin gops
          (try (apply hK';clear hK' K')))
         repeat' (first|(with_reducible apply zz1)|((with_reducible apply zz2);rfl;intro K' hK';simp only [WA,simprocAttr,hw3];(repeat (constructor;focus (clear hK';intros;simp_all;done)));(try (apply hK';clear hK' K')))|((with_reducible apply zz3);rfl;all_goals (intro h;try exact absurd h (by decide))))
         refine ⟨(j + 1,r ++ [.mk zk zw zs zn zls zl]),⟨(by show j + 1 ≤ U.length;omega),(by simp [hrl]),hst⟩,(by show U.length - (j + 1) < U.length - j;omega),by simp only [← hap, ← hap1];refine sub_of h0 ?_ ?_ ?_ <;> simp only [US,WA,simprocAttr]⟩
        | none =>
         obtain ⟨J,hcall⟩ : ∃ J : Lt,DFn Tryz.prog Γ 65 [x.d,y.d] (.tup [J.d,.v (.bool false)]):=hcall
         have hR2 : R = none:=by rw [← hR];exact allO_none hst
         subst hR2
         obtain ⟨xk,xw,xs,xn,xls,xl⟩:=x
         obtain ⟨yk,yw,ys,yn,yls,yl⟩:=y
         obtain ⟨zk,zw,zs,zn,zls,zl⟩:=J
         simp only [Lt.d] at hgx hgy hcall
         simp only [Lt.zero,Lt.d,Lt.ds,List.map_nil]
         repeat' (first|(with_reducible apply zz1)|((with_reducible apply zz2);rfl;intro K' hK';simp only [WA,simprocAttr,hc3,hd3];(repeat (constructor;focus (clear hK';intros;simp_all;done)));(try (apply hK';clear hK' K')))|((with_reducible apply zz3);rfl;all_goals (intro h;try exact absurd h (by decide))))
         (with_reducible refine swp_drawX ?_ ?_ ?_ (⟨⟨[(10,.tup [.agg [iD zk,sD zw,iD zs,sD zn,.slc (zls.map sD),.slc (Lt.ds zl)],.v (.bool false)])],[]⟩,[],[],[],[]⟩) _ rfl (fun K' hK' gops fin hgops hfin=>?_)
          · kernel_rfl
          · rfl
          · rfl
          repeat' first
           | (refine vcX_dead rfl trivial (by simp only [WA,simprocAttr,UX,UA];rfl) (by simp only [List.nil_append,List.cons_append];rfl) (by simp only [zn2];rfl) ?_)
           | (refine vcX_step rfl rfl trivial (by simp only [WA,simprocAttr,UX,UA,hcall,hgx,hgy,hd1,hd2,hc1,hc2,hll,hll',Int.toNat_natCast ];rfl) ?_ (by simp only [WA,simprocAttr,UX,UA];rfl) (by simp only [WA,simprocAttr,UX,UA];rfl) (by simp only [List.nil_append,List.cons_append];rfl) (by simp only [zn2];rfl) ?_;focus (first | trivial | ((repeat' apply And.intro) <;> first | trivial | assumption | (clear hK' hfin hgops;intros;simp_all;done))))
          (refine vcX_nil (by subst hfin;kernel_rfl) ?_)
          clear hfin hgops fin gops
          (try (apply hK';clear hK' K')))
         repeat' (first|(with_reducible apply zz1)|((with_reducible apply zz2);rfl;intro K' hK';simp only [WA,simprocAttr,Bool.not_false];(repeat (constructor;focus (clear hK';intros;simp_all;done)));(try (apply hK';clear hK' K')))|((with_reducible apply zz3);rfl;all_goals (intro h;try exact absurd h (by decide))))
         simp only [Kret,retL,retOne,oneV,WA,simprocAttr]
  · have hb1 : ¬ (j : Int) < (U.length : Int):=by omega
    obtain rfl : j = U.length:=by omega
    have hR2 : R = some r:=by
     rw [List.take_of_length_le (by omega),hR] at hz
     exact hz
    subst hR2
    have hdec : decide ((U.length : Int) ≤ 6) = decide (U.length ≤ 6):=by
     rw [decide_eq_decide];omega
    rw [List.take_of_length_le (by omega)]
    simp only [Lt.d]
    repeat' (first|(with_reducible apply zz1)|((with_reducible apply zz2);rfl;intro K' hK';simp only [WA,simprocAttr,hb1];(repeat (constructor;focus (clear hK';intros;simp_all;done)));(try (apply hK';clear hK' K')))|((with_reducible apply zz3);rfl;all_goals (intro h;try exact absurd h (by decide))))
    (with_reducible refine swp_drawX ?_ ?_ ?_ (⟨⟨[],[]⟩,[],[],[],[]⟩) _ rfl (fun K' hK' gops fin hgops hfin=>?_)
     · kernel_rfl
     · rfl
     · rfl
     repeat' first
      | (refine vcX_dead rfl trivial (by simp only [WA,simprocAttr,UX,UA];rfl) (by simp only [List.nil_append,List.cons_append];rfl) (by simp only [zn2];rfl) ?_)
      | (refine vcX_step rfl rfl trivial (by simp only [WA,simprocAttr,UX,UA,hdec,List.length_map ];rfl) ?_ (by simp only [WA,simprocAttr,UX,UA];rfl) (by simp only [WA,simprocAttr,UX,UA];rfl) (by simp only [List.nil_append,List.cons_append];rfl) (by simp only [zn2];rfl) ?_;focus (first | trivial | ((repeat' apply And.intro) <;> first | trivial | assumption | (clear hK' hfin hgops;intros;simp_all;done))))
     (refine vcX_nil (by subst hfin;kernel_rfl) ?_)
     clear hfin hgops fin gops
     (try (apply hK';clear hK' K')))
    repeat' (first|(with_reducible apply zz1)|((with_reducible apply zz2);rfl;intro K' hK';simp only [WA,simprocAttr];(repeat (constructor;focus (clear hK';intros;simp_all;done)));(try (apply hK';clear hK' K')))|((with_reducible apply zz3);rfl;all_goals (intro h;try exact absurd h (by decide))))
    simp only [Kret,retL,retOne,oneV,WA,simprocAttr]
 obtain ⟨V,hV,rfl⟩:=key
 cases R with
 | some r =>
  by_cases h6 : U.length ≤ 6
  · simp only [if_pos h6]
    rw [decide_eq_true h6] at hV
    exact hV
  · simp only [if_neg h6]
    rw [decide_eq_false h6] at hV
    exact ⟨_,hV⟩
 | none=>exact ⟨_,hV⟩
set_option maxHeartbeats 4000000 in
set_option maxRecDepth 100000 in
theorem merged_same (Γ : Gl) (a b : Lt) (hs : DFn Tryz.prog Γ 105 [a.d,b.d] (.v (.bool true))) : DFn Tryz.prog Γ 65 [a.d,b.d] (.tup [a.d,.v (.bool true)]):=by
 obtain ⟨k,wi,so,nm,ls,l⟩:=a
 obtain ⟨k',wi',so',nm',ls',l'⟩:=b
 simp only [Lt.d] at hs ⊢
 refine fn_of_swp (N:=179) Tryz.func65 rfl (by decide) rfl rfl (by simp) (fun C h0=>?_)
 simp only [argE]
 repeat' (first|(with_reducible apply zz1)|((with_reducible apply zz2);rfl;intro K' hK';simp only [WA,simprocAttr];(repeat (constructor;focus (clear hK';intros;simp_all;done)));(try (apply hK';clear hK' K')))|((with_reducible apply zz3);rfl;all_goals (intro h;try exact absurd h (by decide))))
 refine stop_callF rfl (by simp only [WA,simprocAttr]) rfl rfl (hs) ?_
 simp only [WA,simprocAttr,inX,dropS, ]
 (repeat (constructor;focus (clear hK';intros;simp_all;done)))
 (try (apply hK';clear hK' K'))
 repeat' (first|(with_reducible apply zz1)|((with_reducible apply zz2);rfl;intro K' hK';simp only [WA,simprocAttr];(repeat (constructor;focus (clear hK';intros;simp_all;done)));(try (apply hK';clear hK' K')))|((with_reducible apply zz3);rfl;all_goals (intro h;try exact absurd h (by decide))))
 simp only [Kret,retL,retOne,oneV,WA,simprocAttr]
theorem merged_fn (Γ : Gl) : ∀ (n : Nat) (a b : Lt),OkL a → OkL b → a.size ≤ n → MgF Γ a b (mo n a b)
 | 0,a,_,_,_,h=>by have:=a.size_pos;omega
 | n + 1, .mk k wi so nm ls l,.mk k' wi' so' nm' ls' l',ha,hb,h=>by
  have hs:=same_all Γ _ (.mk k wi so nm ls l) (.mk k' wi' so' nm' ls' l') ha hb (Nat.le_refl _)
  unfold mo
  by_cases he : sameP (.mk k wi so nm ls l) (.mk k' wi' so' nm' ls' l') = true
  · rw [he] at hs
    rw [if_pos he]
    exact merged_same Γ _ _ hs
  · have he : sameP (.mk k wi so nm ls l) (.mk k' wi' so' nm' ls' l') = false:=by simpa using he
    rw [he] at hs
    rw [if_neg (by rw [he];decide),mo1_eq]
    have ih : ∀ x ∈ l, ∀ y ∈ l',MgF Γ x y (mo n x y):=fun x hx y hy=>merged_fn Γ n x y ((okL_kids ha).2.2 x hx) ((okL_kids hb).2.2 y hy) (by have:=Lt.size_mem hx;simp only [Lt.size] at h;omega)
    cases hne : headNe k wi so nm ls k' wi' so' nm' ls' with
    | true =>
     rw [if_neg (fun q=>by rw [headNe_iff.2 q] at hne;cases hne)]
     exact ⟨_,merged_ne Γ (mo n) k wi so nm ls l k' wi' so' nm' ls' l' ha hb hs hne⟩
    | false =>
     have hh:=headNe_iff.1 hne
     rw [if_pos hh]
     obtain ⟨rfl,e1,rfl,e2,h6⟩:=hh
     obtain rfl:=toList_inj e1
     obtain rfl:=toList_inj e2
     have hq : (bif (k == 6) then !(eqS ls ls') else false) = false:=by
      by_cases e : k = 6
      · simp [e,h6 e]
      · simp [e]
     by_cases hls : ls = []
     · subst hls
       rw [if_pos rfl]
       exact merged_zip Γ (mo n) k wi so nm l ls' l' ha hb hs hq ih
     · rw [if_neg hls]
       have hk : k = 6 ∨ k = 7:=by
        cases ha with
        | nil=>exact absurd rfl hls
        | pass=>exact absurd rfl hls
        | pick _ _ _ _ hk=>exact hk
        | bind=>exact absurd rfl hls
        | var=>exact absurd rfl hls
       exact merged_lab Γ (mo n) k wi so nm ls l ls' l' hk ha hb hs hq ih
end Go.Proofs.YtdcplkefmpjppaaGreatDoor.GG
