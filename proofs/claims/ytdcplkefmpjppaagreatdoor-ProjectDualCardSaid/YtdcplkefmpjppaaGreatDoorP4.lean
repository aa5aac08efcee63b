/- project.same, slices.EqualFunc of those; a symbolic walk. -/
-- TYPESA
import Derived.Test.YtdcplkefmpjppaaGreatDoorP3
set_option linter.unusedVariables false
set_option linter.unusedSimpArgs false
namespace Go.Proofs.YtdcplkefmpjppaaGreatDoor.GG
open Go.RowKit Go.Sw
open Go.Sw renaming swp_seq → zw0, kseq_n → zw6, swp_region → zw17

set_option maxHeartbeats 8000000 in
set_option maxRecDepth 100000 in
theorem equalF_fn (Γ : Gl) (l l' : List Lt) (hl : l.length ≤ 140737488355328) (ih : ∀ x ∈ l, ∀ y,y ∈ l' → DFn Tryz.prog Γ 105 [x.d,y.d] (.v (.bool (sameP x y)))) :
 SFn Tryz.prog Γ 135 [.d (.slc (Lt.ds l)),.d (.slc (Lt.ds l')),.clo 105 []] [] (.d (.v (.bool (samePs l l')))) []:=by
 have hll:=Lt.ds_len l
 have hll':=Lt.ds_len l'
 by_cases hlen : l.length = l'.length
 · have g1 : ((l.length : Int) != (l'.length : Int)) = false:=by rw [hlen];simp
   refine sfn_of_swp (N:=32) Tryz.func135 rfl (by decide) rfl rfl (by simp) (fun C h0=>?_)
   simp only [argS]
   repeat' (first|(with_reducible apply zz1)|((with_reducible apply zz2);rfl;intro K' hK';simp only [WA,simprocAttr,hll,hll',g1];(repeat (constructor;focus (clear hK';intros;simp_all;done)));(try (apply hK';clear hK' K')))|((with_reducible apply zz3);rfl;all_goals (intro h;try exact absurd h (by decide))))
   refine swp_loop (α := Nat) (fun j=>[(1,.d (.slc (Lt.ds l'))),(2,.clo 105 []),(15,.d (.slc (Lt.ds l))),(16,.d (iD l.length)),(17,.d (iD j))]) (fun _=>[])
    (fun j=>j ≤ l.length ∧ samePs l l' = samePs (l.drop j) (l'.drop j)) (fun j=>l.length - j) 0 ⟨Nat.zero_le _,rfl⟩ (by refine sub_of h0 ?_ ?_ ?_ <;> simp only [US,WA,simprocAttr,hll]) (fun j hj=>?_)
   obtain ⟨hj,hq⟩:=hj
   have hb0 : (0 : Int) ≤ (j : Int):=by omega
   by_cases hlt : j < l.length
   · obtain ⟨x,hx⟩ : ∃ x,l[j]? = some x:=⟨l[j],by simp [hlt]⟩
     obtain ⟨y,hy⟩ : ∃ y,l'[j]? = some y:=⟨l'[j]'(by omega),by simp⟩
     have hgx:=Lt.ds_get l j x hx
     have hgy:=Lt.ds_get l' j y hy
     have hcall:=ih x (List.mem_of_getElem? hx) y (List.mem_of_getElem? hy)
     have hd1 : l.drop j = x :: l.drop (j + 1):=by
      obtain ⟨h1,h2⟩:=List.getElem?_eq_some_iff.1 hx
      rw [List.drop_eq_getElem_cons h1,h2]
     have hd2 : l'.drop j = y :: l'.drop (j + 1):=by
      obtain ⟨h1,h2⟩:=List.getElem?_eq_some_iff.1 hy
      rw [List.drop_eq_getElem_cons h1,h2]
     rw [hd1,hd2,samePs] at hq
     have hb1 : (j : Int) < (l.length : Int):=by omega
     have hb2 : (j : Int) < (l'.length : Int):=by omega
     have hw3 : IntKind.i64.wrap ((j : Int) + 1) = ((j + 1 : Nat) : Int):=by rw [wrap_in (by omega) (by omega)];omega
     generalize sameP x y = r at *
     obtain ⟨xk,xw,xs,xn,xls,xl⟩:=x
     obtain ⟨yk,yw,ys,yn,yls,yl⟩:=y
     simp only [Lt.d] at hgx hgy hcall
     cases r with
     | true =>
      rw [cond_true] at hq
      repeat' (first|(with_reducible apply zz1)|((with_reducible apply zz2);rfl;intro K' hK';simp only [WA,simprocAttr,Int.toNat_natCast,hgx,hgy,hll,hll',hb0,hb1,hb2];(repeat (constructor;focus (clear hK';intros;simp_all;done)));(try (apply hK';clear hK' K')))|((with_reducible apply zz3);rfl;all_goals (intro h;try exact absurd h (by decide))))
      refine stop_callC (caps:=[]) rfl (by simp only [WA,simprocAttr]) (by simp only [WA,simprocAttr]) rfl rfl (hcall ) ?_
      simp only [WA,simprocAttr,  Bool.not_true]
      (try (apply hK';clear hK' K'))
      repeat' (first|(with_reducible apply zz1)|((with_reducible apply zz2);rfl;intro K' hK';simp only [WA,simprocAttr,hw3];(repeat (constructor;focus (clear hK';intros;simp_all;done)));(try (apply hK';clear hK' K')))|((with_reducible apply zz3);rfl;all_goals (intro h;try exact absurd h (by decide))))
      refine ⟨j + 1,⟨(by show j + 1 ≤ l.length;omega),hq⟩,(by show l.length - (j + 1) < l.length - j;omega),by refine sub_of h0 ?_ ?_ ?_ <;> simp only [US,WA,simprocAttr]⟩
     | false =>
      rw [cond_false] at hq
      rw [hq]
      repeat' (first|(with_reducible apply zz1)|((with_reducible apply zz2);rfl;intro K' hK';simp only [WA,simprocAttr,Int.toNat_natCast,hgx,hgy,hll,hll',hb0,hb1,hb2];(repeat (constructor;focus (clear hK';intros;simp_all;done)));(try (apply hK';clear hK' K')))|((with_reducible apply zz3);rfl;all_goals (intro h;try exact absurd h (by decide))))
      refine stop_callC (caps:=[]) rfl (by simp only [WA,simprocAttr]) (by simp only [WA,simprocAttr]) rfl rfl (hcall ) ?_
      simp only [WA,simprocAttr,  Bool.not_false]
      (try (apply hK';clear hK' K'))
      repeat' (first|(with_reducible apply zz1)|((with_reducible apply zz2);rfl;intro K' hK';simp only [WA,simprocAttr,hw3];(repeat (constructor;focus (clear hK';intros;simp_all;done)));(try (apply hK';clear hK' K')))|((with_reducible apply zz3);rfl;all_goals (intro h;try exact absurd h (by decide))))
      simp only [KretS,retL,retOne,oneV,US,WA,simprocAttr,h0]
   · have hb1 : ¬ (j : Int) < (l.length : Int):=by omega
     rw [List.drop_of_length_le (by omega),List.drop_of_length_le (by omega),samePs] at hq
     rw [hq]
     repeat' (first|(with_reducible apply zz1)|((with_reducible apply zz2);rfl;intro K' hK';simp only [WA,simprocAttr,hb1];(repeat (constructor;focus (clear hK';intros;simp_all;done)));(try (apply hK';clear hK' K')))|((with_reducible apply zz3);rfl;all_goals (intro h;try exact absurd h (by decide))))
     simp only [KretS,retL,retOne,oneV,US,WA,simprocAttr,h0]
 · have g1 : ((l.length : Int) != (l'.length : Int)) = true:=by simpa using (by omega : (l.length : Int) ≠ (l'.length : Int))
   rw [samePs_len hlen]
   refine sfn_of_swp (N:=32) Tryz.func135 rfl (by decide) rfl rfl (by simp) (fun C h0=>?_)
   simp only [argS]
   repeat' (first|(with_reducible apply zz1)|((with_reducible apply zz2);rfl;intro K' hK';simp only [WA,simprocAttr,hll,hll',g1];(repeat (constructor;focus (clear hK';intros;simp_all;done)));(try (apply hK';clear hK' K')))|((with_reducible apply zz3);rfl;all_goals (intro h;try exact absurd h (by decide))))
   simp only [KretS,retL,retOne,oneV,US,WA,simprocAttr,h0]
set_option maxHeartbeats 16000000 in
set_option maxRecDepth 100000 in
theorem same_step (Γ : Gl) (k : Int) (wi : ByteArray) (so : Int) (nm : ByteArray) (ls : List ByteArray) (l : List Lt) (k' : Int) (wi' : ByteArray) (so' : Int) (nm' : ByteArray) (ls' : List ByteArray) (l' : List Lt) (hls : ls.length ≤ 60) (hl : l.length ≤ 60)
 (ih : ∀ x ∈ l, ∀ y,y ∈ l' → DFn Tryz.prog Γ 105 [x.d,y.d] (.v (.bool (sameP x y)))) :
 DFn Tryz.prog Γ 105 [(Lt.mk k wi so nm ls l).d,(Lt.mk k' wi' so' nm' ls' l').d] (.v (.bool (sameP (.mk k wi so nm ls l) (.mk k' wi' so' nm' ls' l')))):=by
 have heF:=equalF_fn Γ l l' (by omega) ih
 have heS:=equalS_fn Γ ls ls' (by omega)
 simp only [sameP,Lt.d]
 cases e1 : (k == k') with
 | false =>
  simp only [cond_true,cond_false]
  refine fn_of_swp (N:=45) Tryz.func105 rfl (by decide) rfl rfl (by simp) (fun C h0=>?_)
  simp only [argE]
  refine zw0 ?_
  (with_reducible refine zw17 ?_ (fun K' hK'=>?_)
   · rfl
   simp only [WA,simprocAttr]
   (repeat (constructor;focus (clear hK';intros;simp_all;done))))
  refine hK' _ _ ?_
  clear hK' K'
  refine zw6 ?_
  refine zw0 ?_
  (with_reducible refine zw17 ?_ (fun K' hK'=>?_)
   · rfl
   simp only [WA,simprocAttr,e1]
   (repeat (constructor;focus (clear hK';intros;simp_all;done))))
  refine stop_unmetB rfl rfl ?_
  simp only [WA,simprocAttr]
  (try (apply hK';clear hK' K'))
  refine stop_unmetB rfl rfl ?_
  simp only [WA,simprocAttr]
  (try (apply hK';clear hK' K'))
  repeat' (first|(with_reducible apply zz1)|((with_reducible apply zz2);rfl;intro K' hK';simp only [WA,simprocAttr];(repeat (constructor;focus (clear hK';intros;simp_all;done)));(try (apply hK';clear hK' K')))|((with_reducible apply zz3);rfl;all_goals (intro h;try exact absurd h (by decide))))
  simp only [Kret,retL,retOne,oneV,WA,simprocAttr]
 | true =>
  cases e2 : (wi.toList == wi'.toList) with
  | false =>
   simp only [cond_true,cond_false]
   refine fn_of_swp (N:=45) Tryz.func105 rfl (by decide) rfl rfl (by simp) (fun C h0=>?_)
   simp only [argE]
   refine zw0 ?_
   (with_reducible refine zw17 ?_ (fun K' hK'=>?_)
    · rfl
    simp only [WA,simprocAttr]
    (repeat (constructor;focus (clear hK';intros;simp_all;done))))
   refine hK' _ _ ?_
   clear hK' K'
   refine zw6 ?_
   refine zw0 ?_
   (with_reducible refine zw17 ?_ (fun K' hK'=>?_)
    · rfl
    simp only [WA,simprocAttr,e1,e2]
    (repeat (constructor;focus (clear hK';intros;simp_all;done))))
   refine stop_unmetB rfl rfl ?_
   simp only [WA,simprocAttr]
   (try (apply hK';clear hK' K'))
   refine stop_unmetB rfl rfl ?_
   simp only [WA,simprocAttr]
   (try (apply hK';clear hK' K'))
   repeat' (first|(with_reducible apply zz1)|((with_reducible apply zz2);rfl;intro K' hK';simp only [WA,simprocAttr];(repeat (constructor;focus (clear hK';intros;simp_all;done)));(try (apply hK';clear hK' K')))|((with_reducible apply zz3);rfl;all_goals (intro h;try exact absurd h (by decide))))
   simp only [Kret,retL,retOne,oneV,WA,simprocAttr]
  | true =>
   cases e3 : (so == so') with
   | false =>
    simp only [cond_true,cond_false]
    refine fn_of_swp (N:=45) Tryz.func105 rfl (by decide) rfl rfl (by simp) (fun C h0=>?_)
    simp only [argE]
    refine zw0 ?_
    (with_reducible refine zw17 ?_ (fun K' hK'=>?_)
     · rfl
     simp only [WA,simprocAttr]
     (repeat (constructor;focus (clear hK';intros;simp_all;done))))
    refine hK' _ _ ?_
    clear hK' K'
    refine zw6 ?_
    refine zw0 ?_
    (with_reducible refine zw17 ?_ (fun K' hK'=>?_)
     · rfl
     simp only [WA,simprocAttr,e1,e2,e3]
     (repeat (constructor;focus (clear hK';intros;simp_all;done))))
    refine stop_unmetB rfl rfl ?_
    simp only [WA,simprocAttr]
    (try (apply hK';clear hK' K'))
    refine stop_unmetB rfl rfl ?_
    simp only [WA,simprocAttr]
    (try (apply hK';clear hK' K'))
    repeat' (first|(with_reducible apply zz1)|((with_reducible apply zz2);rfl;intro K' hK';simp only [WA,simprocAttr];(repeat (constructor;focus (clear hK';intros;simp_all;done)));(try (apply hK';clear hK' K')))|((with_reducible apply zz3);rfl;all_goals (intro h;try exact absurd h (by decide))))
    simp only [Kret,retL,retOne,oneV,WA,simprocAttr]
   | true =>
    cases e4 : (nm.toList == nm'.toList) with
    | false =>
     simp only [cond_true,cond_false]
     refine fn_of_swp (N:=45) Tryz.func105 rfl (by decide) rfl rfl (by simp) (fun C h0=>?_)
     simp only [argE]
     refine zw0 ?_
     (with_reducible refine zw17 ?_ (fun K' hK'=>?_)
      · rfl
      simp only [WA,simprocAttr]
      (repeat (constructor;focus (clear hK';intros;simp_all;done))))
     refine hK' _ _ ?_
     clear hK' K'
     refine zw6 ?_
     refine zw0 ?_
     (with_reducible refine zw17 ?_ (fun K' hK'=>?_)
      · rfl
      simp only [WA,simprocAttr,e1,e2,e3,e4]
      (repeat (constructor;focus (clear hK';intros;simp_all;done))))
     refine stop_unmetB rfl rfl ?_
     simp only [WA,simprocAttr]
     (try (apply hK';clear hK' K'))
     refine stop_unmetB rfl rfl ?_
     simp only [WA,simprocAttr]
     (try (apply hK';clear hK' K'))
     repeat' (first|(with_reducible apply zz1)|((with_reducible apply zz2);rfl;intro K' hK';simp only [WA,simprocAttr];(repeat (constructor;focus (clear hK';intros;simp_all;done)));(try (apply hK';clear hK' K')))|((with_reducible apply zz3);rfl;all_goals (intro h;try exact absurd h (by decide))))
     simp only [Kret,retL,retOne,oneV,WA,simprocAttr]
    | true =>
     cases e5 : eqS ls ls' with
     | false =>
      rw [e5] at heS
      simp only [cond_true,cond_false]
      refine fn_of_swp (N:=45) Tryz.func105 rfl (by decide) rfl rfl (by simp) (fun C h0=>?_)
      simp only [argE]
      refine zw0 ?_
      (with_reducible refine zw17 ?_ (fun K' hK'=>?_)
       · rfl
       simp only [WA,simprocAttr]
       (repeat (constructor;focus (clear hK';intros;simp_all;done))))
      refine hK' _ _ ?_
      clear hK' K'
      refine zw6 ?_
      refine zw0 ?_
      (with_reducible refine zw17 ?_ (fun K' hK'=>?_)
       · rfl
       simp only [WA,simprocAttr,e1,e2,e3,e4]
       (repeat (constructor;focus (clear hK';intros;simp_all;done))))
      refine stop_guard rfl ?_
      refine stop_callF rfl (by simp only [WA,simprocAttr] <;> decide) rfl rfl (heS) ?_
      simp only [WA,simprocAttr,inX,dropS, ]
      (repeat (constructor;focus (clear hK';intros;simp_all;done)))
      (try (apply hK';clear hK' K'))
      refine stop_unmetB rfl rfl ?_
      simp only [WA,simprocAttr]
      (try (apply hK';clear hK' K'))
      repeat' (first|(with_reducible apply zz1)|((with_reducible apply zz2);rfl;intro K' hK';simp only [WA,simprocAttr];(repeat (constructor;focus (clear hK';intros;simp_all;done)));(try (apply hK';clear hK' K')))|((with_reducible apply zz3);rfl;all_goals (intro h;try exact absurd h (by decide))))
      simp only [Kret,retL,retOne,oneV,WA,simprocAttr]
     | true =>
      rw [e5] at heS
      simp only [cond_true,cond_false]
      refine fn_of_swp (N:=45) Tryz.func105 rfl (by decide) rfl rfl (by simp) (fun C h0=>?_)
      simp only [argE]
      refine zw0 ?_
      (with_reducible refine zw17 ?_ (fun K' hK'=>?_)
       · rfl
       simp only [WA,simprocAttr]
       (repeat (constructor;focus (clear hK';intros;simp_all;done))))
      refine hK' _ _ ?_
      clear hK' K'
      refine zw6 ?_
      refine zw0 ?_
      (with_reducible refine zw17 ?_ (fun K' hK'=>?_)
       · rfl
       simp only [WA,simprocAttr,e1,e2,e3,e4]
       (repeat (constructor;focus (clear hK';intros;simp_all;done))))
      refine stop_guard rfl ?_
      refine stop_callF rfl (by simp only [WA,simprocAttr] <;> decide) rfl rfl (heS) ?_
      simp only [WA,simprocAttr,inX,dropS, ]
      (repeat (constructor;focus (clear hK';intros;simp_all;done)))
      (try (apply hK';clear hK' K'))
      refine stop_guard rfl ?_
      refine stop_cS rfl (by simp only [UA,WA,simprocAttr]) (heF) ?_
      simp only [WA,simprocAttr,UM, ]
      (try (apply hK';clear hK' K'))
      repeat' (first|(with_reducible apply zz1)|((with_reducible apply zz2);rfl;intro K' hK';simp only [WA,simprocAttr];(repeat (constructor;focus (clear hK';intros;simp_all;done)));(try (apply hK';clear hK' K')))|((with_reducible apply zz3);rfl;all_goals (intro h;try exact absurd h (by decide))))
      simp only [Kret,retL,retOne,oneV,WA,simprocAttr]
theorem same_all (Γ : Gl) : ∀ (N : Nat) (a b : Lt),OkL a → OkL b → a.size ≤ N → DFn Tryz.prog Γ 105 [a.d,b.d] (.v (.bool (sameP a b)))
 | 0,a,_,_,_,h=>by have:=a.size_pos;omega
 | N + 1,.mk k wi so nm ls l,.mk k' wi' so' nm' ls' l',ha,hb,h=>by
  obtain ⟨h1,h2,h3⟩:=okL_kids ha
  obtain ⟨g1,g2,g3⟩:=okL_kids hb
  exact same_step Γ k wi so nm ls l k' wi' so' nm' ls' l' (by omega) (by omega) fun x hx y hy=>same_all Γ N x y (h3 x hx) (g3 y hy) (by have:=Lt.size_mem hx;simp only [Lt.size] at h;omega)
end Go.Proofs.YtdcplkefmpjppaaGreatDoor.GG
