/- project.check, project.Check; a symbolic walk. -/
-- TYPESA
import Derived.Test.YtdcplkefmpjppaaGreatDoorP4
set_option linter.unusedVariables false
set_option linter.unusedSimpArgs false
namespace Go.Proofs.YtdcplkefmpjppaaGreatDoor.GG
open Go.RowKit Go.Sw

mutual
def Lt.sm : Lt → Prop
 | .mk _ _ _ _ ls l=>(ls.length ≤ 140737488355328 ∧ l.length * 96 ≤ 140737488355328) ∧ Lt.sms l
def Lt.sms : List Lt → Prop
 | []=>True
 | x :: l=>x.sm ∧ Lt.sms l
end
theorem Lt.sms_mem : ∀ {l : List Lt} {x : Lt},Lt.sms l → x ∈ l → x.sm
 | y :: l,x,h,hx=>by
  rcases List.mem_cons.1 hx with rfl | hx
  · exact h.1
  · exact Lt.sms_mem h.2 hx
def Lt.cs : Lt → List SV
 | .mk k wi so nm ls l=>[.d (iD k),.d (sD wi),.d (iD so),.d (sD nm),.d (.slc (ls.map sD)),.d (.slc (Lt.ds l))]
def LchkS (Γ : Gl) (x : Lt) : Prop := ∀ (b : List ByteArray) (left : Int),0 ≤ left → b.length + left ≤ 60 → SFn Tryz.prog Γ 62 [.d x.d,.d (.slc (b.map sD)),.ref 0 0] [(0,.cells [.d (iD left)])] (.d (iD (lchk x b left).1)) [(0,.cells [.d (iD (lchk x b left).2)])]
theorem lchk_kid {k so : Int} {nm : ByteArray} {ls : List ByteArray} {n : Nat} (h : tCheck (.mk k so nm ls (List.replicate n endT)) = 0) (h8 : k = 8) : n = 1:=by
 have hok:=(ok_check h).1
 generalize hR : List.replicate n endT = R at hok
 cases hok with
 | pass _ _ _ hk=>omega
 | give _ _ _ hk=>omega
 | pick _ _ _ hk=>omega
 | bind _ x hn hx=>exact rep_one hR
 | nil=>omega
 | var=>omega
theorem lchk_len {k so : Int} {nm : ByteArray} {ls : List ByteArray} {n : Nat} (h : tCheck (.mk k so nm ls (List.replicate n endT)) = 0) : n ≤ 6:=by
 have hok:=(ok_check h).1
 generalize hR : List.replicate n endT = R at hok
 have e : R.length = n:=by rw [← hR];simp
 cases hok with
 | nil=>simp at e;omega
 | pass=>simp at e;omega
 | give=>simp at e;omega
 | pick _ _ _ _ hl hn=>have:=labels_len hl;omega
 | bind=>simp at e;omega
 | var=>simp at e;omega

theorem badH_eq {k : Int} {wi : ByteArray} {r E : Bool} (hr : isRoleB wi = r) (hE : E = (bif (bif (bif (!((bif decide (2 ≤ k) then decide (k ≤ 7) else false) == r)) then true else (bif !(bif decide (2 ≤ k) then decide (k ≤ 7) else false) then !(wi.toList == ByteArray.toList ⟨#[]⟩) else false)) then true else k == 4) then true else k == 5)) : E = badH k wi:=by
 subst hE
 unfold badH emptyB
 rw [hr]
 by_cases a : 2 ≤ k <;> by_cases b : k ≤ 7 <;> by_cases c : k = 4 <;> by_cases d : k = 5 <;> cases r <;> cases (wi.toList == ByteArray.toList ⟨#[]⟩) <;> first | (exfalso;omega) | (simp [a,b,c,d];done)
set_option maxHeartbeats 16000000 in
set_option maxRecDepth 100000 in
theorem lcheck_step (Γ : Gl) (k : Int) (wi : ByteArray) (so : Int) (nm : ByteArray) (ls : List ByteArray) (l : List Lt) (hsm : l.length * 96 ≤ 140737488355328) (hlm : ls.length ≤ 140737488355328) (ih : ∀ x ∈ l,LchkS Γ x) : LchkS Γ (.mk k wi so nm ls l):=by
 intro b left hl0 hl1
 have hll:=Lt.ds_len l
 have hw : IntKind.i64.wrap (left - 1) = left - 1:=wrap_in (by omega) (by omega)
 have hro:=isRole_fn Γ wi
 have hva:=isVar_fn Γ nm
 have hct : DFn Tryz.prog Γ 47 [.slc (b.map sD),sD nm] (.v (.bool (inL b nm))):=containsS_fn Γ b nm (by omega)
 have hcl:=cloneS_fn Γ b (by omega)
 obtain ⟨R,hR⟩ : ∃ R,lchk (.mk k wi so nm ls l) b left = R:=⟨_,rfl⟩
 rw [hR]
 simp only [Lt.d]
 refine sfn_of_swp (N:=149) Tryz.func62 rfl (by decide) rfl rfl (by simp) (fun C h0=>?_)
 simp only [argS]
 by_cases hneg : left - 1 < 0
 · have hR : R = (2,left - 1):=by rw [← hR];unfold lchk;rw [if_pos hneg]
   subst hR
   repeat' (first|(with_reducible apply zz1)|((with_reducible apply zz2);rfl;intro K' hK';simp only [WA,simprocAttr,hw,hneg];(repeat (constructor;focus (clear hK';intros;simp_all;done)));(try (apply hK';clear hK' K')))|((with_reducible apply zz3);rfl;all_goals (intro h;try exact absurd h (by decide))))
   simp only [KretS,retL,retOne,oneV,US,WA,simprocAttr,h0]
 unfold lchk at hR
 rw [if_neg hneg] at hR
 generalize hr : isRoleB wi = r at hro
 repeat' (first|(with_reducible apply zz1)|((with_reducible apply zz2);rfl;intro K' hK';simp only [WA,simprocAttr,hw,hneg];(repeat (constructor;focus (clear hK';intros;simp_all;done)));(try (apply hK';clear hK' K')))|((with_reducible apply zz3);rfl;all_goals (intro h;try exact absurd h (by decide))))
 refine stop_callF rfl (by simp only [WA,simprocAttr]) rfl rfl (hro) ?_
 simp only [WA,simprocAttr,inX,dropS, ]
 (repeat (constructor;focus (clear hK';intros;simp_all;done)))
 (try (apply hK';clear hK' K'))
 repeat' (first|(with_reducible apply zz1)|((with_reducible apply zz2);rfl;intro K' hK';simp only [WA,simprocAttr];(repeat (constructor;focus (clear hK';intros;simp_all;done)));(try (apply hK';clear hK' K')))|((with_reducible apply zz3);rfl;all_goals (intro h;try exact absurd h (by decide))))
 · have hb:=badH_eq (k:=k) hr rfl
   rw [h] at hb
   rw [if_pos hb.symm] at hR
   subst hR
   simp only [KretS,retL,retOne,oneV,US,WA,simprocAttr,h0]
 have hb:=badH_eq (k:=k) hr rfl
 rw [h] at hb
 rw [if_neg (by rw [← hb];decide)] at hR
 clear h hro
 refine swp_nilB 2 4 3 5 rfl rfl rfl (by decide) ?_
 simp only [WA,simprocAttr]
 refine swp_loop (α := Nat) (fun j=>[(1,.d (.slc (b.map sD))),(2,.ref 0 0),(3,.ref 1 0),(8,.ref 2 0),(65,.d (iD l.length)),(66,.d (iD j))])
  (fun j=>[(0,.cells [.d (iD (left - 1))]),(1,.cells [.d (iD k),.d (sD wi),.d (iD so),.d (sD nm),.d (.slc (ls.map sD)),.d (.slc (Lt.ds l))]),(2,.cells [.d (iD k),.d (iD so),.d (sD nm),.d (.slc (ls.map sD)),.own 3]),(3,.row 5 (Tp.ds (List.replicate j endT)))])
  (fun j=>j ≤ l.length) (fun j=>l.length - j) 0 (Nat.zero_le _) (by simp only [List.replicate_zero,Tp.ds];refine sub_of h0 ?_ ?_ ?_ <;> simp only [US,WA,simprocAttr,hll]) (fun j hj=>?_)
 have hj : j ≤ l.length:=hj
 have hjr : (Tp.ds (List.replicate j endT)).length = j:=by rw [Tp.ds_len,List.length_replicate]
 by_cases hlt : j < l.length
 · have hb1 : (j : Int) < (l.length : Int):=by omega
   have hw3 : IntKind.i64.wrap ((j : Int) + 1) = ((j + 1 : Nat) : Int):=by rw [wrap_in (by omega) (by omega)];omega
   have m1 : (j + 1) * 80 ≤ 140737488355328:=by omega
   have m2 : j + 1 ≤ maxLen:=by unfold maxLen;omega
   have hap : Tp.ds (List.replicate j endT) ++ [.agg [iD 1,iD 0,sD ⟨#[]⟩,.slc [],.slc []]] = Tp.ds (List.replicate (j + 1) endT):=by
    have : ∀ j,Tp.ds (List.replicate j endT) = List.replicate j endT.d:=fun j=>by
     induction j with
     | zero=>rfl
     | succ j ih=>rw [List.replicate_succ,Tp.ds,ih,List.replicate_succ]
    rw [this,this,List.replicate_succ']
    rfl
   repeat' (first|(with_reducible apply zz1)|((with_reducible apply zz2);rfl;intro K' hK';simp only [WA,simprocAttr,hb1,hw3];(repeat (constructor;focus (clear hK';intros;simp_all;done)));(try (apply hK';clear hK' K')))|((with_reducible apply zz3);rfl;all_goals (intro h;try exact absurd h (by decide))))
   refine ⟨j + 1,(by show j + 1 ≤ l.length;omega),(by show l.length - (j + 1) < l.length - j;omega),by simp only [← hap];refine sub_of h0 ?_ ?_ ?_ <;> simp only [US,WA,simprocAttr]⟩
 have hb1 : ¬ (j : Int) < (l.length : Int):=by omega
 obtain rfl : j = l.length:=by omega
 clear hlt
 have hT:=TCheck_fn Γ (.mk k so nm ls (List.replicate l.length endT))
 simp only [Tp.d] at hT
 by_cases k9 : k = 9
 · subst k9
   rw [if_pos rfl] at hR
   cases hv : isVarB nm with
   | false =>
    rw [hv] at hva
    rw [if_pos (.inl hv)] at hR
    subst hR
    repeat' (first|(with_reducible apply zz1)|((with_reducible apply zz2);rfl;intro K' hK';simp only [WA,simprocAttr,hb1];(repeat (constructor;focus (clear hK';intros;simp_all;done)));(try (apply hK';clear hK' K')))|((with_reducible apply zz3);rfl;all_goals (intro h;try exact absurd h (by decide))))
    refine stop_callF rfl (by simp only [WA,simprocAttr]) rfl rfl (hva) ?_
    simp only [WA,simprocAttr,inX,dropS,Bool.not_false,cond_true]
    (repeat (constructor;focus (clear hK';intros;simp_all;done)))
    (try (apply hK';clear hK' K'))
    repeat' (first|(with_reducible apply zz1)|((with_reducible apply zz2);rfl;intro K' hK';simp only [WA,simprocAttr];(repeat (constructor;focus (clear hK';intros;simp_all;done)));(try (apply hK';clear hK' K')))|((with_reducible apply zz3);rfl;all_goals (intro h;try exact absurd h (by decide))))
    simp only [KretS,retL,retOne,oneV,US,WA,simprocAttr,h0]
   | true =>
    rw [hv] at hva
    by_cases hso : so = 0
    · have g1 : (so != 0) = false:=by simpa using hso
      have hwl : IntKind.i64.wrap ((ls.length : Int) + (l.length : Int)) = ((ls.length + l.length : Nat) : Int):=by rw [wrap_in (by omega) (by omega)];omega
      by_cases hz : 0 < ls.length + l.length
      · rw [if_pos (.inr (.inr hz))] at hR
        subst hR
        have g2 : (0 : Int) < ((ls.length + l.length : Nat) : Int):=by omega
        repeat' (first|(with_reducible apply zz1)|((with_reducible apply zz2);rfl;intro K' hK';simp only [WA,simprocAttr,hb1];(repeat (constructor;focus (clear hK';intros;simp_all;done)));(try (apply hK';clear hK' K')))|((with_reducible apply zz3);rfl;all_goals (intro h;try exact absurd h (by decide))))
        refine stop_callF rfl (by simp only [WA,simprocAttr]) rfl rfl (hva) ?_
        simp only [WA,simprocAttr,inX,dropS,Bool.not_true,cond_false,g1,hll,List.length_map,hwl,g2]
        (repeat (constructor;focus (clear hK';intros;simp_all;done)))
        (try (apply hK';clear hK' K'))
        repeat' (first|(with_reducible apply zz1)|((with_reducible apply zz2);rfl;intro K' hK';simp only [WA,simprocAttr];(repeat (constructor;focus (clear hK';intros;simp_all;done)));(try (apply hK';clear hK' K')))|((with_reducible apply zz3);rfl;all_goals (intro h;try exact absurd h (by decide))))
        simp only [KretS,retL,retOne,oneV,US,WA,simprocAttr,h0]
      · rw [if_neg (by rintro (q | q | q); · rw [hv] at q;cases q
                       · exact q hso
                       · exact hz q)] at hR
        have g2 : ¬ (0 : Int) < ((ls.length + l.length : Nat) : Int):=by omega
        cases eI : inL b nm with
        | false =>
         rw [eI] at hct
         rw [if_pos eI] at hR
         subst hR
         repeat' (first|(with_reducible apply zz1)|((with_reducible apply zz2);rfl;intro K' hK';simp only [WA,simprocAttr,hb1];(repeat (constructor;focus (clear hK';intros;simp_all;done)));(try (apply hK';clear hK' K')))|((with_reducible apply zz3);rfl;all_goals (intro h;try exact absurd h (by decide))))
         refine stop_callF rfl (by simp only [WA,simprocAttr]) rfl rfl (hva) ?_
         simp only [WA,simprocAttr,inX,dropS,Bool.not_true,cond_false,g1,hll,List.length_map,hwl,g2]
         (repeat (constructor;focus (clear hK';intros;simp_all;done)))
         (try (apply hK';clear hK' K'))
         repeat' (first|(with_reducible apply zz1)|((with_reducible apply zz2);rfl;intro K' hK';simp only [WA,simprocAttr];(repeat (constructor;focus (clear hK';intros;simp_all;done)));(try (apply hK';clear hK' K')))|((with_reducible apply zz3);rfl;all_goals (intro h;try exact absurd h (by decide))))
         refine stop_callF rfl (by simp only [WA,simprocAttr]) rfl rfl (hct) ?_
         simp only [WA,simprocAttr,inX,dropS,Bool.not_false]
         (repeat (constructor;focus (clear hK';intros;simp_all;done)))
         (try (apply hK';clear hK' K'))
         repeat' (first|(with_reducible apply zz1)|((with_reducible apply zz2);rfl;intro K' hK';simp only [WA,simprocAttr];(repeat (constructor;focus (clear hK';intros;simp_all;done)));(try (apply hK';clear hK' K')))|((with_reducible apply zz3);rfl;all_goals (intro h;try exact absurd h (by decide))))
         simp only [KretS,retL,retOne,oneV,US,WA,simprocAttr,h0]
        | true =>
         rw [eI] at hct
         rw [if_neg (by rw [eI];decide)] at hR
         subst hR
         repeat' (first|(with_reducible apply zz1)|((with_reducible apply zz2);rfl;intro K' hK';simp only [WA,simprocAttr,hb1];(repeat (constructor;focus (clear hK';intros;simp_all;done)));(try (apply hK';clear hK' K')))|((with_reducible apply zz3);rfl;all_goals (intro h;try exact absurd h (by decide))))
         refine stop_callF rfl (by simp only [WA,simprocAttr]) rfl rfl (hva) ?_
         simp only [WA,simprocAttr,inX,dropS,Bool.not_true,cond_false,g1,hll,List.length_map,hwl,g2]
         (repeat (constructor;focus (clear hK';intros;simp_all;done)))
         (try (apply hK';clear hK' K'))
         repeat' (first|(with_reducible apply zz1)|((with_reducible apply zz2);rfl;intro K' hK';simp only [WA,simprocAttr];(repeat (constructor;focus (clear hK';intros;simp_all;done)));(try (apply hK';clear hK' K')))|((with_reducible apply zz3);rfl;all_goals (intro h;try exact absurd h (by decide))))
         refine stop_callF rfl (by simp only [WA,simprocAttr]) rfl rfl (hct) ?_
         simp only [WA,simprocAttr,inX,dropS,Bool.not_true]
         (repeat (constructor;focus (clear hK';intros;simp_all;done)))
         (try (apply hK';clear hK' K'))
         repeat' (first|(with_reducible apply zz1)|((with_reducible apply zz2);rfl;intro K' hK';simp only [WA,simprocAttr];(repeat (constructor;focus (clear hK';intros;simp_all;done)));(try (apply hK';clear hK' K')))|((with_reducible apply zz3);rfl;all_goals (intro h;try exact absurd h (by decide))))
         simp only [KretS,retL,retOne,oneV,US,WA,simprocAttr,h0]
    · have g1 : (so != 0) = true:=by simpa using hso
      rw [if_pos (.inr (.inl hso))] at hR
      subst hR
      repeat' (first|(with_reducible apply zz1)|((with_reducible apply zz2);rfl;intro K' hK';simp only [WA,simprocAttr,hb1];(repeat (constructor;focus (clear hK';intros;simp_all;done)));(try (apply hK';clear hK' K')))|((with_reducible apply zz3);rfl;all_goals (intro h;try exact absurd h (by decide))))
      refine stop_callF rfl (by simp only [WA,simprocAttr]) rfl rfl (hva) ?_
      simp only [WA,simprocAttr,inX,dropS,Bool.not_true,cond_false,g1]
      (repeat (constructor;focus (clear hK';intros;simp_all;done)))
      (try (apply hK';clear hK' K'))
      repeat' (first|(with_reducible apply zz1)|((with_reducible apply zz2);rfl;intro K' hK';simp only [WA,simprocAttr];(repeat (constructor;focus (clear hK';intros;simp_all;done)));(try (apply hK';clear hK' K')))|((with_reducible apply zz3);rfl;all_goals (intro h;try exact absurd h (by decide))))
      simp only [KretS,retL,retOne,oneV,US,WA,simprocAttr,h0]
 have g9 : (k == 9) = false:=by simpa using k9
 rw [if_neg k9] at hR
 by_cases ht : tCheck (.mk k so nm ls (List.replicate l.length endT)) ≠ 0
 · rw [if_pos ht] at hR
   subst hR
   have gt : (tCheck (.mk k so nm ls (List.replicate l.length endT)) != 0) = true:=by simpa using ht
   generalize tCheck (.mk k so nm ls (List.replicate l.length endT)) = c at *
   repeat' (first|(with_reducible apply zz1)|((with_reducible apply zz2);rfl;intro K' hK';simp only [WA,simprocAttr,hb1,g9];(repeat (constructor;focus (clear hK';intros;simp_all;done)));(try (apply hK';clear hK' K')))|((with_reducible apply zz3);rfl;all_goals (intro h;try exact absurd h (by decide))))
   refine stop_frz [3] h0 (by simp only [Option.isSome_some,UF,WA,simprocAttr]) ?_
   simp only [WA,simprocAttr,UF]
   refine stop_callF rfl (by simp only [WA,simprocAttr]) rfl rfl (hT) ?_
   simp only [WA,simprocAttr,inX,dropS,gt]
   (repeat (constructor;focus (clear hK';intros;simp_all;done)))
   (try (apply hK';clear hK' K'))
   repeat' (first|(with_reducible apply zz1)|((with_reducible apply zz2);rfl;intro K' hK';simp only [WA,simprocAttr];(repeat (constructor;focus (clear hK';intros;simp_all;done)));(try (apply hK';clear hK' K')))|((with_reducible apply zz3);rfl;all_goals (intro h;try exact absurd h (by decide))))
   simp only [KretS,retL,retOne,oneV,US,WA,simprocAttr,h0]
 rw [if_neg ht] at hR
 have ht : tCheck (.mk k so nm ls (List.replicate l.length endT)) = 0:=by simpa using ht
 rw [ht] at hT
 have hk8:=lchk_kid ht
 have hlen:=lchk_len ht
 clear ht
 repeat' (first|(with_reducible apply zz1)|((with_reducible apply zz2);rfl;intro K' hK';simp only [WA,simprocAttr,hb1,g9];(repeat (constructor;focus (clear hK';intros;simp_all;done)));(try (apply hK';clear hK' K')))|((with_reducible apply zz3);rfl;all_goals (intro h;try exact absurd h (by decide))))
 refine stop_frz [3] h0 (by simp only [Option.isSome_some,UF,WA,simprocAttr]) ?_
 simp only [WA,simprocAttr,UF]
 refine stop_callF rfl (by simp only [WA,simprocAttr]) rfl rfl (hT) ?_
 simp only [WA,simprocAttr,inX,dropS,bne_self_eq_false]
 (repeat (constructor;focus (clear hK';intros;simp_all;done)))
 (try (apply hK';clear hK' K'))
 refine kseq_n ?_
 ((with_reducible refine swp_cond ?_ ?_);rfl;refine ⟨_,rfl,fun h=>?_,fun h=>?_⟩ <;> try exact absurd h (by decide))
 refine swp_skip ?_
 refine kseq_n ?_
 clear h hb1 hva hT
 rename_i hq
 refine swp_seq ?_
 refine swp_midF (ι := List ByteArray) (fun b'=>[(1,.d (.slc (b'.map sD))),(2,.ref 0 0),(3,.ref 1 0)])
  (fun _=>[(0,.cells [.d (iD (left - 1))]),(1,.cells [.d (iD k),.d (sD wi),.d (iD so),.d (sD nm),.d (.slc (ls.map sD)),.d (.slc (Lt.ds l))])]) (fun b'=>b'.length + (left - 1) ≤ 60 ∧ R = lchks l b' (left - 1)) ?_ (fun b' hb=>?_)
 · clear ih hct
   by_cases k8 : k = 8
   · subst k8
     rw [if_pos rfl] at hR
     obtain ⟨x,rfl⟩:=len_one (hk8 rfl)
     have hR : (if stripLK x = 9 then ((7 : Int),left - 1) else lchks [x] (b ++ [nm]) (left - 1)) = R:=hR
     obtain ⟨xk,xwi,xso,xnm,xls,xl⟩:=x
     have e0 : Lt.ds [.mk xk xwi xso xnm xls xl] = [.agg [iD xk,sD xwi,iD xso,sD xnm,.slc (xls.map sD),.slc (Lt.ds xl)]]:=by simp only [Lt.ds,Lt.d]
     rw [e0]
     repeat' (first|(with_reducible apply zz1)|((with_reducible apply zz2);rfl;intro K' hK';simp only [WA,simprocAttr,g9,List.getD_cons_zero,List.length_cons,List.length_nil];(repeat (constructor;focus (clear hK';intros;simp_all;done)));(try (apply hK';clear hK' K')))|((with_reducible apply zz3);rfl;all_goals (intro h;try exact absurd h (by decide))))
     refine swp_loop (α := Lt) (fun y=>[(1,.d (.slc (b.map sD))),(2,.ref 0 0),(3,.ref 1 0),(9,.ref 3 0)]) (fun y=>[(0,.cells [.d (iD (left - 1))]),(1,.cells [.d (iD 8),.d (sD wi),.d (iD so),.d (sD nm),.d (.slc (ls.map sD)),.d (.slc [.agg [iD xk,sD xwi,iD xso,sD xnm,.slc (xls.map sD),.slc (Lt.ds xl)]])]),(3,.cells y.cs)])
      (fun y=>stripLK (.mk xk xwi xso xnm xls xl) = stripLK y) Lt.size (.mk xk xwi xso xnm xls xl) rfl (by simp only [Lt.cs];refine sub_of h0 ?_ ?_ ?_ <;> simp only [US,WA,simprocAttr]) (fun y hy=>?_)
     rw [hy] at hR
     obtain ⟨yk,ywi,yso,ynm,yls,yl⟩:=y
     have hyl:=Lt.ds_len yl
     simp only [Lt.cs]
     have hbl : (b.length + 1) * 16 ≤ 140737488355328:=by omega
     have hbl2 : b.length + 1 ≤ maxLen:=by unfold maxLen;omega
     by_cases y8 : yk = 8
     · subst y8
       by_cases y1 : yl.length = 1
       · obtain ⟨z,rfl⟩ : ∃ z,yl = [z]:=by
          match yl,y1 with
          | [z],_=>exact ⟨z,rfl⟩
         obtain ⟨zk,zwi,zso,znm,zls,zl⟩:=z
         have e1 : Lt.ds [.mk zk zwi zso znm zls zl] = [.agg [iD zk,sD zwi,iD zso,sD znm,.slc (zls.map sD),.slc (Lt.ds zl)]]:=by simp only [Lt.ds,Lt.d]
         rw [e1]
         repeat' (first|(with_reducible apply zz1)|((with_reducible apply zz2);rfl;intro K' hK';simp only [WA,simprocAttr,List.length_cons,List.length_nil,List.getD_cons_zero];(repeat (constructor;focus (clear hK';intros;simp_all;done)));(try (apply hK';clear hK' K')))|((with_reducible apply zz3);rfl;all_goals (intro h;try exact absurd h (by decide))))
         refine ⟨.mk zk zwi zso znm zls zl,?_,?_,by simp only [Lt.cs];refine sub_of h0 ?_ ?_ ?_ <;> simp only [US,WA,simprocAttr]⟩
         · rw [hy];rfl
         · simp only [Lt.size,Lt.sizes];omega
       · have g1 : ((yl.length : Int) == 1) = false:=by simpa using (by omega : (yl.length : Int) ≠ 1)
         have hs : stripLK (.mk 8 ywi yso ynm yls yl) = 8:=by
          match yl,y1 with
          | [],_=>rfl
          | _ :: _ :: _,_=>rfl
         rw [hs,if_neg (by decide)] at hR
         have g89 : ((8 : Int) == 9) = false:=by decide
         clear hy
         repeat' (first|(with_reducible apply zz1)|((with_reducible apply zz2);rfl;intro K' hK';simp only [WA,simprocAttr,hyl,g1,g89];(repeat (constructor;focus (clear hK';intros;simp_all;done)));(try (apply hK';clear hK' K')))|((with_reducible apply zz3);rfl;all_goals (intro h;try exact absurd h (by decide))))
         (with_reducible refine swp_drawW ?_ ?_ ?_ ( ⟨[],[(1,(1,b.map sD))]⟩) _ rfl (fun K' hK'=>?_)
          · kernel_rfl
          · rfl
          · rfl
          simp only [WA,simprocAttr,vcW,stepW,callR,effO,srcE,Eff.env,Eff.st,writeOp,callA,pureOp,Bool.or_true,Bool.true_or,Bool.or_self,Bool.or_false,Bool.false_or,D.flat,D.flats,true_or,or_true,forall_const,List.length_map,hcl,hbl,hbl2 ]
          (repeat (constructor;focus (first | (with_reducible assumption) | (clear hK';intros;simp_all;done))))
          (refine And.intro (by kernel_rfl) ?_)
          (try (apply hK';clear hK' K')))
         repeat' (first|(with_reducible apply zz1)|((with_reducible apply zz2);rfl;intro K' hK';simp only [WA,simprocAttr];(repeat (constructor;focus (clear hK';intros;simp_all;done)));(try (apply hK';clear hK' K')))|((with_reducible apply zz3);rfl;all_goals (intro h;try exact absurd h (by decide))))
         refine kfam_n (b ++ [nm]) ⟨by rw [List.length_append];simp only [List.length_cons,List.length_nil];omega,hR.symm⟩ ?_
         refine sub_of h0 ?_ ?_ ?_ <;> simp only [US,WA,simprocAttr,List.map_append]
     · have g8 : (yk == 8) = false:=by simpa using y8
       have hs : stripLK (.mk yk ywi yso ynm yls yl) = yk:=by simp only [stripLK,if_neg y8]
       rw [hs] at hR
       clear hy
       by_cases y9 : yk = 9
       · have g9 : (yk == 9) = true:=by simpa using y9
         rw [if_pos y9] at hR
         subst hR
         repeat' (first|(with_reducible apply zz1)|((with_reducible apply zz2);rfl;intro K' hK';simp only [WA,simprocAttr,g8,g9];(repeat (constructor;focus (clear hK';intros;simp_all;done)));(try (apply hK';clear hK' K')))|((with_reducible apply zz3);rfl;all_goals (intro h;try exact absurd h (by decide))))
         refine kfam_r ?_
         simp only [KretS,retL,retOne,oneV,US,WA,simprocAttr,h0]
       · have g9 : (yk == 9) = false:=by simpa using y9
         rw [if_neg y9] at hR
         repeat' (first|(with_reducible apply zz1)|((with_reducible apply zz2);rfl;intro K' hK';simp only [WA,simprocAttr,g8,g9];(repeat (constructor;focus (clear hK';intros;simp_all;done)));(try (apply hK';clear hK' K')))|((with_reducible apply zz3);rfl;all_goals (intro h;try exact absurd h (by decide))))
         (with_reducible refine swp_drawW ?_ ?_ ?_ ( ⟨[],[(1,(1,b.map sD))]⟩) _ rfl (fun K' hK'=>?_)
          · kernel_rfl
          · rfl
          · rfl
          simp only [WA,simprocAttr,vcW,stepW,callR,effO,srcE,Eff.env,Eff.st,writeOp,callA,pureOp,Bool.or_true,Bool.true_or,Bool.or_self,Bool.or_false,Bool.false_or,D.flat,D.flats,true_or,or_true,forall_const,List.length_map,hcl,hbl,hbl2 ]
          (repeat (constructor;focus (first | (with_reducible assumption) | (clear hK';intros;simp_all;done))))
          (refine And.intro (by kernel_rfl) ?_)
          (try (apply hK';clear hK' K')))
         repeat' (first|(with_reducible apply zz1)|((with_reducible apply zz2);rfl;intro K' hK';simp only [WA,simprocAttr];(repeat (constructor;focus (clear hK';intros;simp_all;done)));(try (apply hK';clear hK' K')))|((with_reducible apply zz3);rfl;all_goals (intro h;try exact absurd h (by decide))))
         refine kfam_n (b ++ [nm]) ⟨by rw [List.length_append];simp only [List.length_cons,List.length_nil];omega,hR.symm⟩ ?_
         refine sub_of h0 ?_ ?_ ?_ <;> simp only [US,WA,simprocAttr,List.map_append]
   · have g8 : (k == 8) = false:=by simpa using k8
     rw [if_neg k8] at hR
     repeat' (first|(with_reducible apply zz1)|((with_reducible apply zz2);rfl;intro K' hK';simp only [WA,simprocAttr,g9,g8];(repeat (constructor;focus (clear hK';intros;simp_all;done)));(try (apply hK';clear hK' K')))|((with_reducible apply zz3);rfl;all_goals (intro h;try exact absurd h (by decide))))
     refine kfam_n b ⟨by omega,hR.symm⟩ ?_
     refine sub_of h0 ?_ ?_ ?_ <;> simp only [US,WA,simprocAttr]
 · obtain ⟨hbl,hR⟩:=hb
   subst hR
   clear hct hcl hk8
   repeat' (first|(with_reducible apply zz1)|((with_reducible apply zz2);rfl;intro K' hK';simp only [WA,simprocAttr,hll];(repeat (constructor;focus (clear hK';intros;simp_all;done)));(try (apply hK';clear hK' K')))|((with_reducible apply zz3);rfl;all_goals (intro h;try exact absurd h (by decide))))
   refine swp_loop (α := Nat × Int) (fun q=>[(1,.d (.slc (b'.map sD))),(2,.ref 0 0),(135,.d (.slc (Lt.ds l))),(136,.d (iD l.length)),(137,.d (iD q.1))]) (fun q=>[(0,.cells [.d (iD q.2)])])
    (fun q=>q.1 ≤ l.length ∧ 0 ≤ q.2 ∧ q.2 ≤ left - 1 ∧ lchks l b' (left - 1) = lchks (l.drop q.1) b' q.2) (fun q=>l.length - q.1) (0,left - 1) ⟨Nat.zero_le _,(by show 0 ≤ left - 1;omega),Int.le_refl _,by simp⟩ (by refine sub_of h0 ?_ ?_ ?_ <;> simp only [US,WA,simprocAttr,hll]) (fun q hq=>?_)
   obtain ⟨j,lf⟩:=q
   obtain ⟨hj,hf0,hf1,hch⟩:=hq
   simp only at hj hf0 hf1 hch
   have hb0 : (0 : Int) ≤ (j : Int):=by omega
   by_cases hlt : j < l.length
   · obtain ⟨x,hx⟩ : ∃ x,l[j]? = some x:=⟨l[j],by simp [hlt]⟩
     have hcall:=ih x (List.mem_of_getElem? hx) b' lf hf0 (by omega)
     have hget:=Lt.ds_get l j x hx
     have hb1 : (j : Int) < (l.length : Int):=by omega
     have hw3 : IntKind.i64.wrap ((j : Int) + 1) = ((j + 1 : Nat) : Int):=by rw [wrap_in (by omega) (by omega)];omega
     have hcl:=lchk_left x b' lf hf0
     obtain ⟨e1,l1,hse⟩ : ∃ e1 l1,lchk x b' lf = (e1,l1):=⟨_,_,rfl⟩
     have hd : l.drop j = x :: l.drop (j + 1):=by
      obtain ⟨h1,h2⟩:=List.getElem?_eq_some_iff.1 hx
      rw [List.drop_eq_getElem_cons h1,h2]
     rw [hse] at hcall hcl
     rw [hd] at hch
     simp only [lchks,hse] at hch
     simp only at hcall hcl
     obtain ⟨k',wi',so',nm',ls',l'⟩:=x
     simp only [Lt.d] at hget hcall
     repeat' (first|(with_reducible apply zz1)|((with_reducible apply zz2);rfl;intro K' hK';simp only [WA,simprocAttr,Int.toNat_natCast,hget,hll,hb0,hb1];(repeat (constructor;focus (clear hK';intros;simp_all;done)));(try (apply hK';clear hK' K')))|((with_reducible apply zz3);rfl;all_goals (intro h;try exact absurd h (by decide))))
     refine stop_cS rfl (by simp only [UA,WA,simprocAttr]) (hcall ) ?_
     simp only [WA,simprocAttr,UM,  Int.toNat_natCast]
     (try (apply hK';clear hK' K'))
     repeat' (first|(with_reducible apply zz1)|((with_reducible apply zz2);rfl;intro K' hK';simp only [WA,simprocAttr,hw3];(repeat (constructor;focus (clear hK';intros;simp_all;done)));(try (apply hK';clear hK' K')))|((with_reducible apply zz3);rfl;all_goals (intro h;try exact absurd h (by decide))))
     · simp only [KretS,retL,retOne,oneV,US,WA,simprocAttr,h0]
       have he : e1 ≠ 0:=by simpa using h
       rw [if_pos he] at hch
       simp only [hch,and_self]
     · have he : ¬ e1 ≠ 0:=by simpa using h
       rw [if_neg he] at hch
       refine ⟨(j + 1,l1),⟨(by show j + 1 ≤ l.length;omega),?_⟩,(by show l.length - (j + 1) < l.length - j;omega),by refine sub_of h0 ?_ ?_ ?_ <;> simp only [US,WA,simprocAttr]⟩
       exact ⟨hcl.2 (by omega),(by show l1 ≤ left - 1;omega),hch⟩
   · have hb1 : ¬ (j : Int) < (l.length : Int):=by omega
     repeat' (first|(with_reducible apply zz1)|((with_reducible apply zz2);rfl;intro K' hK';simp only [WA,simprocAttr,hb1];(repeat (constructor;focus (clear hK';intros;simp_all;done)));(try (apply hK';clear hK' K')))|((with_reducible apply zz3);rfl;all_goals (intro h;try exact absurd h (by decide))))
     simp only [KretS,retL,retOne,oneV,US,WA,simprocAttr,h0]
     rw [List.drop_of_length_le (by omega)] at hch
     simp only [hch,lchks,and_self]
theorem lcheckS_all (Γ : Gl) : ∀ (N : Nat) (x : Lt),x.size ≤ N → x.sm → LchkS Γ x
 | 0,x,h,_=>by have:=x.size_pos;omega
 | N + 1,.mk k wi so nm ls l,h,hs=>by
  have hs1 : (ls.length ≤ 140737488355328 ∧ l.length * 96 ≤ 140737488355328) ∧ Lt.sms l:=by simpa only [Lt.sm] using hs
  exact lcheck_step Γ k wi so nm ls l hs1.1.2 hs1.1.1 fun x hx=>lcheckS_all Γ N x (by have:=Lt.size_mem hx;simp only [Lt.size] at h;omega) (Lt.sms_mem hs1.2 hx)
set_option maxHeartbeats 4000000 in
set_option maxRecDepth 100000 in
theorem LCheck_fn (Γ : Gl) (x : Lt) (hs : x.sm) : DFn Tryz.prog Γ 27 [x.d] (iD (lCheck x)):=by
 have hcall : SFn Tryz.prog Γ 62 [.d x.d,.d (.slc []),.ref 1 0] [(1,.cells [.d (iD 60)])] (.d (iD (lchk x [] 60).1)) [(1,.cells [.d (iD (lchk x [] 60).2)])]:=(lcheckS_all Γ x.size x (Nat.le_refl _) hs [] 60 (by omega) (by simp)).up 1
 unfold lCheck
 generalize lchk x [] 60 = R at *
 refine fn_of_swp (N:=6) Tryz.func27 rfl (by decide) rfl rfl (by simp) (fun C h0=>?_)
 simp only [argE]
 obtain ⟨k,wi,so,nm,ls,l⟩:=x
 simp only [Lt.d] at hcall ⊢
 repeat' (first|(with_reducible apply zz1)|((with_reducible apply zz2);rfl;intro K' hK';simp only [WA,simprocAttr];(repeat (constructor;focus (clear hK';intros;simp_all;done)));(try (apply hK';clear hK' K')))|((with_reducible apply zz3);rfl;all_goals (intro h;try exact absurd h (by decide))))
 refine stop_cS rfl (by simp only [UA,WA,simprocAttr]) (hcall) ?_
 simp only [WA,simprocAttr,UM, ]
 (try (apply hK';clear hK' K'))
 repeat' (first|(with_reducible apply zz1)|((with_reducible apply zz2);rfl;intro K' hK';simp only [WA,simprocAttr];(repeat (constructor;focus (clear hK';intros;simp_all;done)));(try (apply hK';clear hK' K')))|((with_reducible apply zz3);rfl;all_goals (intro h;try exact absurd h (by decide))))
 simp only [Kret,retL,retOne,oneV,WA,simprocAttr]
end Go.Proofs.YtdcplkefmpjppaaGreatDoor.GG
