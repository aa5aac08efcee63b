/- global.labels: types.labels' code once more (printed by mkg2.py out of T2). -/
-- TYPESA
import Derived.Test.YtlnmkdbcdcknjaaDoorU2
import Derived.Test.YtlnmkdbcdcknjaaDoorTA
set_option linter.unusedVariables false
set_option linter.unusedSimpArgs false
namespace Go.Proofs.YtlnmkdbcdcknjaaDoor.GG
open Go.RowKit Go.Sw

set_option maxHeartbeats 8000000 in
set_option maxRecDepth 100000 in
theorem labelsG_fn (Γ : Gl) (ls : List ByteArray) : DFn Tryd.prog Γ 73 [.slc (ls.map sD)] (.v (.bool (labelsB ls))):=by
 unfold labelsB
 by_cases h1 : ls.length < 1
 · have g1 : (ls.length : Int) < 1:=by omega
   rw [if_pos h1]
   refine fn_of_swp (N:=37) Tryd.func73 rfl (by decide) rfl rfl (by simp) (fun C h0=>?_)
   simp only [argE]
   repeat' (first|(with_reducible apply zz1)|((with_reducible apply zz2);rfl;intro K' hK';simp only [WA,simprocAttr,List.length_map,g1,Bool.not_true,Bool.not_false,cond_true,cond_false];(repeat (constructor;focus (clear hK';intros;simp_all;done)));(try (apply hK';clear hK' K')))|((with_reducible apply zz3);rfl;all_goals (intro h;try exact absurd h (by decide))))
   simp only [Kret,retL,retOne,oneV,WA,simprocAttr]
 have g1 : ¬ (ls.length : Int) < 1:=by omega
 rw [if_neg h1]
 by_cases h2 : 6 < ls.length
 · have g2 : (6 : Int) < (ls.length : Int):=by omega
   rw [if_pos h2]
   refine fn_of_swp (N:=37) Tryd.func73 rfl (by decide) rfl rfl (by simp) (fun C h0=>?_)
   simp only [argE]
   repeat' (first|(with_reducible apply zz1)|((with_reducible apply zz2);rfl;intro K' hK';simp only [WA,simprocAttr,List.length_map,g1,g2,Bool.not_true,Bool.not_false,cond_true,cond_false];(repeat (constructor;focus (clear hK';intros;simp_all;done)));(try (apply hK';clear hK' K')))|((with_reducible apply zz3);rfl;all_goals (intro h;try exact absurd h (by decide))))
   simp only [Kret,retL,retOne,oneV,WA,simprocAttr]
 have g2 : ¬ (6 : Int) < (ls.length : Int):=by omega
 rw [if_neg h2]
 refine fn_of_swp (N:=37) Tryd.func73 rfl (by decide) rfl rfl (by simp) (fun C h0=>?_)
 simp only [argE]
 repeat' (first|(with_reducible apply zz1)|((with_reducible apply zz2);rfl;intro K' hK';simp only [WA,simprocAttr,List.length_map,g1,g2,Bool.not_true,Bool.not_false,cond_true,cond_false];(repeat (constructor;focus (clear hK';intros;simp_all;done)));(try (apply hK';clear hK' K')))|((with_reducible apply zz3);rfl;all_goals (intro h;try exact absurd h (by decide))))
 refine swp_loop (α := Nat) (fun j=>[(0,.d (.slc (ls.map sD))),(13,.d (.slc (ls.map sD))),(14,.d (iD ls.length)),(15,.d (iD j))]) (fun _=>[])
  (fun j=>j ≤ ls.length ∧ labAll ls = labRest ls j) (fun j=>ls.length - j) 0 ⟨Nat.zero_le _,rfl⟩ (by refine sub_of h0 ?_ ?_ ?_ <;> simp only [US,WA,simprocAttr,List.length_map]) (fun j hj=>?_)
 obtain ⟨hj,hch⟩:=hj
 have hb0 : (0 : Int) ≤ (j : Int):=by omega
 by_cases hlt : j < ls.length
 · obtain ⟨b,hx⟩ : ∃ b,ls[j]? = some b:=⟨ls[j],by simp [hlt]⟩
   have hget : (ls.map sD).getD j default = sD b:=by simp [List.getD,hx]
   have hb1 : (j : Int) < (ls.length : Int):=by omega
   have hw3 : IntKind.i64.wrap ((j : Int) + 1) = ((j + 1 : Nat) : Int):=by rw [wrap_in (by omega) (by omega)];omega
   have hd : ls.drop j = b :: ls.drop (j + 1):=by
    obtain ⟨h1,h2⟩:=List.getElem?_eq_some_iff.1 hx
    rw [List.drop_eq_getElem_cons h1,h2]
   have hgb : ls.getD j ⟨#[]⟩ = b:=by simp [List.getD,hx]
   have hnext : labRest ls (j + 1) = labGo b (ls.drop (j + 1)):=by simp only [labRest,hgb]
   have hn:=isName_fn Γ b
   -- what stands ahead (at the first place: what stands there)
   obtain ⟨q,m,hpos,hw1,hgp,htn⟩ : ∃ (q : ByteArray) (m : Int),(decide ((0 : Int) < (j : Int)) = decide (0 < j)) ∧ IntKind.i64.wrap ((j : Int) - 1) = m ∧ (ls.map sD).getD m.toNat default = sD q ∧ (0 < j → 0 ≤ m ∧ m < (ls.length : Int) ∧ labRest ls j = labGo q (b :: ls.drop (j + 1))):=by
    cases j with
    | zero=>exact ⟨b, -1,rfl,by decide,(by rw [show (-1 : Int).toNat = 0 from rfl];exact hget),fun h=>absurd h (Nat.lt_irrefl _)⟩
    | succ k =>
     obtain ⟨p,hp⟩ : ∃ p,ls[k]? = some p:=⟨ls[k]'(by omega),by simp⟩
     refine ⟨p,k,by rw [decide_eq_decide];omega,by rw [wrap_in (by omega) (by omega)];omega,by simp [List.getD,hp],fun _=>⟨by omega,by omega,?_⟩⟩
     rw [labRest,hd,show ls.getD k ⟨#[]⟩ = p from by simp [List.getD,hp]]
   have h0r : ¬ 0 < j → labRest ls j = labAll (b :: ls.drop (j + 1)):=fun h=>by
    obtain rfl : j = 0:=by omega
    rw [labRest, ← hd,List.drop_zero]
   cases eN : isNameB b with
   | false =>
    rw [eN] at hn
    have hres : labRest ls j = false:=by
     by_cases hz : 0 < j
     · rw [(htn hz).2.2,labGo,eN];rfl
     · rw [h0r hz,labAll,eN];rfl
    repeat' (first|(with_reducible apply zz1)|((with_reducible apply zz2);rfl;intro K' hK';simp only [WA,simprocAttr,Int.toNat_natCast,hget,List.length_map,hb0,hb1];(repeat (constructor;focus (clear hK';intros;simp_all;done)));(try (apply hK';clear hK' K')))|((with_reducible apply zz3);rfl;all_goals (intro h;try exact absurd h (by decide))))
    refine stop_callF rfl (by simp only [WA,simprocAttr]) rfl rfl (hn) ?_
    simp only [WA,simprocAttr,inX,dropS,hw1,hgp,Int.toNat_natCast,List.length_map,Bool.not_true,Bool.not_false,Bool.false_and,Bool.true_and,Bool.and_false,Bool.and_true,cond_true,cond_false]
    (repeat (constructor;focus (clear hK';intros;simp_all;done)))
    (try (apply hK';clear hK' K'))
    repeat' (first|(with_reducible apply zz1)|((with_reducible apply zz2);rfl;intro K' hK';simp only [WA,simprocAttr];(repeat (constructor;focus (clear hK';intros;simp_all;done)));(try (apply hK';clear hK' K')))|((with_reducible apply zz3);rfl;all_goals (intro h;try exact absurd h (by decide))))
    simp only [Kret,retL,retOne,oneV,WA,simprocAttr]
    rw [hch,hres]
   | true =>
    rw [eN] at hn
    by_cases hz : 0 < j
    · obtain ⟨hm0,hm1,hr⟩:=htn hz
      have hp1 : (0 : Int) < (j : Int):=by omega
      cases eL : leB b q with
      | true =>
       have hres : labRest ls j = false:=by rw [hr,labGo,eN,eL];rfl
       unfold leB at eL
       repeat' (first|(with_reducible apply zz1)|((with_reducible apply zz2);rfl;intro K' hK';simp only [WA,simprocAttr,Int.toNat_natCast,hget,List.length_map,hb0,hb1];(repeat (constructor;focus (clear hK';intros;simp_all;done)));(try (apply hK';clear hK' K')))|((with_reducible apply zz3);rfl;all_goals (intro h;try exact absurd h (by decide))))
       refine stop_callF rfl (by simp only [WA,simprocAttr]) rfl rfl (hn) ?_
       simp only [WA,simprocAttr,inX,dropS,hp1,hw1,hgp,hm0,hm1,eL,Int.toNat_natCast,List.length_map,Bool.not_true,Bool.not_false,Bool.false_and,Bool.true_and,Bool.and_false,Bool.and_true,cond_true,cond_false]
       (repeat (constructor;focus (clear hK';intros;simp_all;done)))
       (try (apply hK';clear hK' K'))
       repeat' (first|(with_reducible apply zz1)|((with_reducible apply zz2);rfl;intro K' hK';simp only [WA,simprocAttr];(repeat (constructor;focus (clear hK';intros;simp_all;done)));(try (apply hK';clear hK' K')))|((with_reducible apply zz3);rfl;all_goals (intro h;try exact absurd h (by decide))))
       simp only [Kret,retL,retOne,oneV,WA,simprocAttr]
       rw [hch,hres]
      | false =>
       have hres : labRest ls j = labRest ls (j + 1):=by rw [hr,hnext,labGo,eN,eL];rfl
       unfold leB at eL
       repeat' (first|(with_reducible apply zz1)|((with_reducible apply zz2);rfl;intro K' hK';simp only [WA,simprocAttr,Int.toNat_natCast,hget,List.length_map,hb0,hb1];(repeat (constructor;focus (clear hK';intros;simp_all;done)));(try (apply hK';clear hK' K')))|((with_reducible apply zz3);rfl;all_goals (intro h;try exact absurd h (by decide))))
       refine stop_callF rfl (by simp only [WA,simprocAttr]) rfl rfl (hn) ?_
       simp only [WA,simprocAttr,inX,dropS,hp1,hw1,hgp,hm0,hm1,eL,Int.toNat_natCast,List.length_map,Bool.not_true,Bool.not_false,Bool.false_and,Bool.true_and,Bool.and_false,Bool.and_true,cond_true,cond_false]
       (repeat (constructor;focus (clear hK';intros;simp_all;done)))
       (try (apply hK';clear hK' K'))
       repeat' (first|(with_reducible apply zz1)|((with_reducible apply zz2);rfl;intro K' hK';simp only [WA,simprocAttr,hw3];(repeat (constructor;focus (clear hK';intros;simp_all;done)));(try (apply hK';clear hK' K')))|((with_reducible apply zz3);rfl;all_goals (intro h;try exact absurd h (by decide))))
       refine ⟨j + 1,⟨(by show j + 1 ≤ ls.length;omega),by rw [hch,hres]⟩,(by show ls.length - (j + 1) < ls.length - j;omega),by refine sub_of h0 ?_ ?_ ?_ <;> simp only [US,WA,simprocAttr]⟩
    · have hp1 : ¬ (0 : Int) < (j : Int):=by omega
      have hres : labRest ls j = labRest ls (j + 1):=by rw [h0r hz,hnext,labAll,eN];rfl
      repeat' (first|(with_reducible apply zz1)|((with_reducible apply zz2);rfl;intro K' hK';simp only [WA,simprocAttr,Int.toNat_natCast,hget,List.length_map,hb0,hb1];(repeat (constructor;focus (clear hK';intros;simp_all;done)));(try (apply hK';clear hK' K')))|((with_reducible apply zz3);rfl;all_goals (intro h;try exact absurd h (by decide))))
      refine stop_callF rfl (by simp only [WA,simprocAttr]) rfl rfl (hn) ?_
      simp only [WA,simprocAttr,inX,dropS,hp1,hw1,hgp,Int.toNat_natCast,List.length_map,Bool.not_true,Bool.not_false,Bool.false_and,Bool.true_and,Bool.and_false,Bool.and_true,cond_true,cond_false]
      (repeat (constructor;focus (clear hK';intros;simp_all;done)))
      (try (apply hK';clear hK' K'))
      repeat' (first|(with_reducible apply zz1)|((with_reducible apply zz2);rfl;intro K' hK';simp only [WA,simprocAttr,hw3];(repeat (constructor;focus (clear hK';intros;simp_all;done)));(try (apply hK';clear hK' K')))|((with_reducible apply zz3);rfl;all_goals (intro h;try exact absurd h (by decide))))
      refine ⟨j + 1,⟨(by show j + 1 ≤ ls.length;omega),by rw [hch,hres]⟩,(by show ls.length - (j + 1) < ls.length - j;omega),by refine sub_of h0 ?_ ?_ ?_ <;> simp only [US,WA,simprocAttr]⟩
 · have hb1 : ¬ (j : Int) < (ls.length : Int):=by omega
   have hres : labRest ls j = true:=by
    have hd : ls.drop j = []:=List.drop_of_length_le (by omega)
    cases j with
    | zero=>rw [List.drop_zero] at hd;rw [labRest,hd];rfl
    | succ k=>rw [labRest,hd];rfl
   repeat' (first|(with_reducible apply zz1)|((with_reducible apply zz2);rfl;intro K' hK';simp only [WA,simprocAttr,hb1];(repeat (constructor;focus (clear hK';intros;simp_all;done)));(try (apply hK';clear hK' K')))|((with_reducible apply zz3);rfl;all_goals (intro h;try exact absurd h (by decide))))
   simp only [Kret,retL,retOne,oneV,WA,simprocAttr]
   rw [hch,hres]
end Go.Proofs.YtlnmkdbcdcknjaaDoor.GG
