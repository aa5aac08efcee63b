/- global's reader: which words are right; a symbolic walk. -/
-- TYPESA
import Derived.Test.YtlnmkdbcdcknjaaDoorR1
import Derived.Test.YtlnmkdbcdcknjaaDoorU7
set_option linter.unusedVariables false
set_option linter.unusedSimpArgs false
namespace Go.Proofs.YtlnmkdbcdcknjaaDoor.GG
open Go.RowKit Go.Sw

theorem right_name (Γ : Gl) (w : ByteArray) : RightF Γ 39 [] w (isNameB w):=⟨rfl,sfn_of_dfn (isName_fn Γ w)⟩
theorem right_var (Γ : Gl) (w : ByteArray) : RightF Γ 40 [] w (isVarB w):=⟨rfl,sfn_of_dfn (isVar_fn Γ w)⟩
def otherB (w v : ByteArray) : Bool:=bif isRoleB v then !(v.toList == w.toList) else false
set_option maxHeartbeats 4000000 in
set_option maxRecDepth 100000 in
theorem right_other (Γ : Gl) (w v : ByteArray) : RightF Γ 43 [.fptr (.agg [sD w]) 0] v (otherB w v):=by
 refine ⟨rfl,?_⟩
 have hr:=isRole_fn Γ v
 unfold otherB
 cases h1 : isRoleB v with
 | true =>
  rw [h1] at hr
  refine sfn_of_swp (N:=11) Tryd.func43 rfl (by decide) rfl rfl (by simp) (fun C h0=>?_)
  simp only [argS]
  repeat' (first|(with_reducible apply zz1)|((with_reducible apply zz2);rfl;intro K' hK';simp only [WA,simprocAttr];(repeat (constructor;focus (clear hK';intros;simp_all;done)));(try (apply hK';clear hK' K')))|((with_reducible apply zz3);rfl;all_goals (intro h;try exact absurd h (by decide))))
  refine stop_callF rfl (by simp only [WA,simprocAttr]) rfl rfl (hr) ?_
  simp only [WA,simprocAttr,inX,dropS,Bool.not_true,Bool.not_false,cond_true,cond_false]
  (repeat (constructor;focus (clear hK';intros;simp_all;done)))
  (try (apply hK';clear hK' K'))
  repeat' (first|(with_reducible apply zz1)|((with_reducible apply zz2);rfl;intro K' hK';simp only [WA,simprocAttr];(repeat (constructor;focus (clear hK';intros;simp_all;done)));(try (apply hK';clear hK' K')))|((with_reducible apply zz3);rfl;all_goals (intro h;try exact absurd h (by decide))))
  simp only [KretS,retL,retOne,oneV,US,WA,simprocAttr,h0]
 | false =>
  rw [h1] at hr
  refine sfn_of_swp (N:=11) Tryd.func43 rfl (by decide) rfl rfl (by simp) (fun C h0=>?_)
  simp only [argS]
  repeat' (first|(with_reducible apply zz1)|((with_reducible apply zz2);rfl;intro K' hK';simp only [WA,simprocAttr];(repeat (constructor;focus (clear hK';intros;simp_all;done)));(try (apply hK';clear hK' K')))|((with_reducible apply zz3);rfl;all_goals (intro h;try exact absurd h (by decide))))
  refine stop_callF rfl (by simp only [WA,simprocAttr]) rfl rfl (hr) ?_
  simp only [WA,simprocAttr,inX,dropS,Bool.not_true,Bool.not_false,cond_true,cond_false]
  (repeat (constructor;focus (clear hK';intros;simp_all;done)))
  (try (apply hK';clear hK' K'))
  repeat' (first|(with_reducible apply zz1)|((with_reducible apply zz2);rfl;intro K' hK';simp only [WA,simprocAttr];(repeat (constructor;focus (clear hK';intros;simp_all;done)));(try (apply hK';clear hK' K')))|((with_reducible apply zz3);rfl;all_goals (intro h;try exact absurd h (by decide))))
  simp only [KretS,retL,retOne,oneV,US,WA,simprocAttr,h0]
set_option maxHeartbeats 4000000 in
set_option maxRecDepth 100000 in
theorem right_sort (Γ : Gl) (hG : GD Tryd.prog Γ 0 22 (.slc (sortsL.map sD))) (v : ByteArray) : RightF Γ 45 [] v (decide (0 < idxS v.toList sortsL 0)):=by
 refine ⟨rfl,?_⟩
 have hx:=indexS_fn Γ sortsL v (by decide)
 generalize idxS v.toList sortsL 0 = ix at *
 refine sfn_of_swp (N:=7) Tryd.func45 rfl (by decide) rfl rfl (by simp) (fun C h0=>?_)
 simp only [argS]
 repeat' (first|(with_reducible apply zz1)|((with_reducible apply zz2);rfl;intro K' hK';simp only [WA,simprocAttr];(repeat (constructor;focus (clear hK';intros;simp_all;done)));(try (apply hK';clear hK' K')))|((with_reducible apply zz3);rfl;all_goals (intro h;try exact absurd h (by decide))))
 refine stop_glob (.slc (sortsL.map sD)) rfl hG ?_
 simp only [WA,simprocAttr]
 refine stop_callF rfl (by simp only [WA,simprocAttr]) rfl rfl (hx) ?_
 simp only [WA,simprocAttr,inX,dropS, ]
 (repeat (constructor;focus (clear hK';intros;simp_all;done)))
 (try (apply hK';clear hK' K'))
 repeat' (first|(with_reducible apply zz1)|((with_reducible apply zz2);rfl;intro K' hK';simp only [WA,simprocAttr];(repeat (constructor;focus (clear hK';intros;simp_all;done)));(try (apply hK';clear hK' K')))|((with_reducible apply zz3);rfl;all_goals (intro h;try exact absurd h (by decide))))
 simp only [KretS,retL,retOne,oneV,US,WA,simprocAttr,h0]
def okL (L : List ByteArray) (w : ByteArray) : Bool:=bif isNameB w then (bif decide (L.length < 6) then (match L.getLast? with | none=>true | some q => !leB w q) else false) else false
theorem last_atG {L : List ByteArray} {q : ByteArray} (h : L.getLast? = some q) : 0 < L.length ∧ (L.map sD).getD (L.length - 1) default = sD q:=by
 rw [List.getLast?_eq_getElem?] at h
 obtain ⟨h1,h2⟩:=List.getElem?_eq_some_iff.1 h
 refine ⟨by omega,?_⟩
 simp only [List.getD,List.getElem?_map,h,Option.map_some,Option.getD_some]
set_option maxHeartbeats 8000000 in
set_option maxRecDepth 100000 in
theorem right_label (Γ : Gl) (kd : Int) (fr to : ByteArray) (so : Int) (nm : ByteArray) (L : List ByteArray) (hL : L.length ≤ 100) (K : List D) (v : ByteArray) : RightF Γ 61 [.fptr (.agg [.ptr (.agg [iD kd,sD fr,sD to,iD so,sD nm,.slc (L.map sD),.slc K])]) 0] v (okL L v):=by
 refine ⟨rfl,?_⟩
 have hr:=isName_fn Γ v
 unfold okL
 cases hl : L.getLast? with
 | none =>
  have : L = []:=by simpa using hl
  subst this
  cases h1 : isNameB v with
  | false =>
   rw [h1] at hr
   refine sfn_of_swp (N:=32) Tryd.func61 rfl (by decide) rfl rfl (by simp) (fun C h0=>?_)
   simp only [argS]
   repeat' (first|(with_reducible apply zz1)|((with_reducible apply zz2);rfl;intro K' hK';simp only [WA,simprocAttr,List.map_nil,List.length_nil];(repeat (constructor;focus (clear hK';intros;simp_all;done)));(try (apply hK';clear hK' K')))|((with_reducible apply zz3);rfl;all_goals (intro h;try exact absurd h (by decide))))
   refine stop_callF rfl (by simp only [WA,simprocAttr]) rfl rfl (hr) ?_
   simp only [WA,simprocAttr,inX,dropS,Bool.not_true,Bool.not_false,Bool.false_and,Bool.true_and,Bool.and_false,Bool.and_true,cond_true,cond_false]
   (repeat (constructor;focus (clear hK';intros;simp_all;done)))
   (try (apply hK';clear hK' K'))
   refine stop_unmet rfl rfl ?_
   simp only [WA,simprocAttr,false_implies,Bool.false_eq_true,implies_true,Bool.not_true,Bool.not_false,Bool.false_and,Bool.true_and,Bool.and_false,Bool.and_true,cond_true,cond_false]
   (try (apply hK';clear hK' K'))
   repeat' (first|(with_reducible apply zz1)|((with_reducible apply zz2);rfl;intro K' hK';simp only [WA,simprocAttr];(repeat (constructor;focus (clear hK';intros;simp_all;done)));(try (apply hK';clear hK' K')))|((with_reducible apply zz3);rfl;all_goals (intro h;try exact absurd h (by decide))))
   simp only [KretS,retL,retOne,oneV,US,WA,simprocAttr,h0]
  | true =>
   rw [h1] at hr
   refine sfn_of_swp (N:=32) Tryd.func61 rfl (by decide) rfl rfl (by simp) (fun C h0=>?_)
   simp only [argS]
   repeat' (first|(with_reducible apply zz1)|((with_reducible apply zz2);rfl;intro K' hK';simp only [WA,simprocAttr,List.map_nil,List.length_nil];(repeat (constructor;focus (clear hK';intros;simp_all;done)));(try (apply hK';clear hK' K')))|((with_reducible apply zz3);rfl;all_goals (intro h;try exact absurd h (by decide))))
   refine stop_callF rfl (by simp only [WA,simprocAttr]) rfl rfl (hr) ?_
   simp only [WA,simprocAttr,inX,dropS,Bool.not_true,Bool.not_false,Bool.false_and,Bool.true_and,Bool.and_false,Bool.and_true,cond_true,cond_false]
   (repeat (constructor;focus (clear hK';intros;simp_all;done)))
   (try (apply hK';clear hK' K'))
   refine stop_unmet rfl rfl ?_
   simp only [WA,simprocAttr,false_implies,Bool.false_eq_true,implies_true,Bool.not_true,Bool.not_false,Bool.false_and,Bool.true_and,Bool.and_false,Bool.and_true,cond_true,cond_false]
   (try (apply hK';clear hK' K'))
   repeat' (first|(with_reducible apply zz1)|((with_reducible apply zz2);rfl;intro K' hK';simp only [WA,simprocAttr];(repeat (constructor;focus (clear hK';intros;simp_all;done)));(try (apply hK';clear hK' K')))|((with_reducible apply zz3);rfl;all_goals (intro h;try exact absurd h (by decide))))
   simp only [KretS,retL,retOne,oneV,US,WA,simprocAttr,h0]
   all_goals rfl
 | some q =>
  obtain ⟨g1,g2⟩:=last_atG hl
  have g0 : ((L.length : Int) == 0) = false:=by simp only [beq_eq_false_iff_ne];omega
  have gw : IntKind.i64.wrap ((L.length : Int) - 1) = ((L.length - 1 : Nat) : Int):=by rw [wrap_in (by omega) (by omega)];omega
  have ga : (0 : Int) ≤ ((L.length - 1 : Nat) : Int):=by omega
  have gb : ((L.length - 1 : Nat) : Int) < (L.length : Int):=by omega
  unfold leB
  cases h1 : isNameB v with
  | false =>
   rw [h1] at hr
   refine sfn_of_swp (N:=32) Tryd.func61 rfl (by decide) rfl rfl (by simp) (fun C h0=>?_)
   simp only [argS]
   repeat' (first|(with_reducible apply zz1)|((with_reducible apply zz2);rfl;intro K' hK';simp only [WA,simprocAttr,List.length_map];(repeat (constructor;focus (clear hK';intros;simp_all;done)));(try (apply hK';clear hK' K')))|((with_reducible apply zz3);rfl;all_goals (intro h;try exact absurd h (by decide))))
   refine stop_callF rfl (by simp only [WA,simprocAttr]) rfl rfl (hr) ?_
   simp only [WA,simprocAttr,inX,dropS,g0,gw,ga,gb,g2,Int.toNat_natCast,List.length_map,Bool.not_true,Bool.not_false,Bool.false_and,Bool.true_and,Bool.and_false,Bool.and_true,cond_true,cond_false]
   (repeat (constructor;focus (clear hK';intros;simp_all;done)))
   (try (apply hK';clear hK' K'))
   repeat' (first|(with_reducible apply zz1)|((with_reducible apply zz2);rfl;intro K' hK';simp only [WA,simprocAttr];(repeat (constructor;focus (clear hK';intros;simp_all;done)));(try (apply hK';clear hK' K')))|((with_reducible apply zz3);rfl;all_goals (intro h;try exact absurd h (by decide))))
   simp only [KretS,retL,retOne,oneV,US,WA,simprocAttr,h0]
  | true =>
   rw [h1] at hr
   by_cases h6 : L.length < 6
   · have g6 : (L.length : Int) < 6:=by omega
     simp only [h6,decide_true,cond_true]
     refine sfn_of_swp (N:=32) Tryd.func61 rfl (by decide) rfl rfl (by simp) (fun C h0=>?_)
     simp only [argS]
     repeat' (first|(with_reducible apply zz1)|((with_reducible apply zz2);rfl;intro K' hK';simp only [WA,simprocAttr,List.length_map];(repeat (constructor;focus (clear hK';intros;simp_all;done)));(try (apply hK';clear hK' K')))|((with_reducible apply zz3);rfl;all_goals (intro h;try exact absurd h (by decide))))
     refine stop_callF rfl (by simp only [WA,simprocAttr]) rfl rfl (hr) ?_
     simp only [WA,simprocAttr,inX,dropS,g6,g0,gw,ga,gb,g2,Int.toNat_natCast,List.length_map,Bool.not_true,Bool.not_false,Bool.false_and,Bool.true_and,Bool.and_false,Bool.and_true,cond_true,cond_false]
     (repeat (constructor;focus (clear hK';intros;simp_all;done)))
     (try (apply hK';clear hK' K'))
     repeat' (first|(with_reducible apply zz1)|((with_reducible apply zz2);rfl;intro K' hK';simp only [WA,simprocAttr];(repeat (constructor;focus (clear hK';intros;simp_all;done)));(try (apply hK';clear hK' K')))|((with_reducible apply zz3);rfl;all_goals (intro h;try exact absurd h (by decide))))
     simp only [KretS,retL,retOne,oneV,US,WA,simprocAttr,h0]
   · have g6 : ¬ (L.length : Int) < 6:=by omega
     simp only [h6,decide_false,cond_true,cond_false]
     refine sfn_of_swp (N:=32) Tryd.func61 rfl (by decide) rfl rfl (by simp) (fun C h0=>?_)
     simp only [argS]
     repeat' (first|(with_reducible apply zz1)|((with_reducible apply zz2);rfl;intro K' hK';simp only [WA,simprocAttr,List.length_map];(repeat (constructor;focus (clear hK';intros;simp_all;done)));(try (apply hK';clear hK' K')))|((with_reducible apply zz3);rfl;all_goals (intro h;try exact absurd h (by decide))))
     refine stop_callF rfl (by simp only [WA,simprocAttr]) rfl rfl (hr) ?_
     simp only [WA,simprocAttr,inX,dropS,g6,g0,gw,ga,gb,g2,Int.toNat_natCast,List.length_map,Bool.not_true,Bool.not_false,Bool.false_and,Bool.true_and,Bool.and_false,Bool.and_true,cond_true,cond_false]
     (repeat (constructor;focus (clear hK';intros;simp_all;done)))
     (try (apply hK';clear hK' K'))
     repeat' (first|(with_reducible apply zz1)|((with_reducible apply zz2);rfl;intro K' hK';simp only [WA,simprocAttr];(repeat (constructor;focus (clear hK';intros;simp_all;done)));(try (apply hK';clear hK' K')))|((with_reducible apply zz3);rfl;all_goals (intro h;try exact absurd h (by decide))))
     simp only [KretS,retL,retOne,oneV,US,WA,simprocAttr,h0]
end Go.Proofs.YtlnmkdbcdcknjaaDoor.GG
