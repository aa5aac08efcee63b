/- types.IsVar, labels: a symbolic walk. -/
-- TYPESA
import Derived.Test.YtlnmkdbcdcknjaaDoorU1
set_option linter.unusedVariables false
set_option linter.unusedSimpArgs false
namespace Go.Proofs.YtlnmkdbcdcknjaaDoor
open Go.RowKit Go.Sw

abbrev endS : ByteArray:=⟨#[101,110,100]⟩
abbrev recS : ByteArray:=⟨#[114,101,99]⟩
def isVarB (s : ByteArray) : Bool:=if isNameB s = true then (if (s.toList == ByteArray.toList endS) = true then false else !(s.toList == ByteArray.toList recS)) else false
set_option maxHeartbeats 4000000 in
set_option maxRecDepth 100000 in
theorem isVar_fn (Γ : Gl) (s : ByteArray) : DFn Tryd.prog Γ 40 [sD s] (.v (.bool (isVarB s))):=by
 have hn:=isName_fn Γ s
 unfold isVarB
 cases e1 : isNameB s with
 | false =>
  rw [e1] at hn
  rw [if_neg (by decide)]
  refine fn_of_swp (N:=13) Tryd.func40 rfl (by decide) rfl rfl (by simp) (fun C h0=>?_)
  simp only [argE]
  repeat' (first|(with_reducible apply zz1)|((with_reducible apply zz2);rfl;intro K' hK';simp only [WA,simprocAttr];(repeat (constructor;focus (clear hK';intros;simp_all;done)));(try (apply hK';clear hK' K')))|((with_reducible apply zz3);rfl;all_goals (intro h;try exact absurd h (by decide))))
  refine stop_callF rfl (by simp only [WA,simprocAttr]) rfl rfl (hn) ?_
  simp only [WA,simprocAttr,inX,dropS,Bool.not_true,Bool.not_false,cond_true,cond_false]
  (repeat (constructor;focus (clear hK';intros;simp_all;done)))
  (try (apply hK';clear hK' K'))
  repeat' (first|(with_reducible apply zz1)|((with_reducible apply zz2);rfl;intro K' hK';simp only [WA,simprocAttr];(repeat (constructor;focus (clear hK';intros;simp_all;done)));(try (apply hK';clear hK' K')))|((with_reducible apply zz3);rfl;all_goals (intro h;try exact absurd h (by decide))))
  simp only [Kret,retL,retOne,oneV,WA,simprocAttr]
 | true =>
  rw [e1] at hn
  rw [if_pos rfl]
  cases e2 : (s.toList == ByteArray.toList endS) with
  | true =>
   rw [if_pos rfl]
   refine fn_of_swp (N:=13) Tryd.func40 rfl (by decide) rfl rfl (by simp) (fun C h0=>?_)
   simp only [argE]
   repeat' (first|(with_reducible apply zz1)|((with_reducible apply zz2);rfl;intro K' hK';simp only [WA,simprocAttr];(repeat (constructor;focus (clear hK';intros;simp_all;done)));(try (apply hK';clear hK' K')))|((with_reducible apply zz3);rfl;all_goals (intro h;try exact absurd h (by decide))))
   refine stop_callF rfl (by simp only [WA,simprocAttr]) rfl rfl (hn) ?_
   simp only [WA,simprocAttr,inX,dropS,e2,Bool.not_true,Bool.not_false,cond_true,cond_false]
   (repeat (constructor;focus (clear hK';intros;simp_all;done)))
   (try (apply hK';clear hK' K'))
   repeat' (first|(with_reducible apply zz1)|((with_reducible apply zz2);rfl;intro K' hK';simp only [WA,simprocAttr];(repeat (constructor;focus (clear hK';intros;simp_all;done)));(try (apply hK';clear hK' K')))|((with_reducible apply zz3);rfl;all_goals (intro h;try exact absurd h (by decide))))
   simp only [Kret,retL,retOne,oneV,WA,simprocAttr]
  | false =>
   rw [if_neg (by decide)]
   cases e3 : (s.toList == ByteArray.toList recS) with
   | true =>
    refine fn_of_swp (N:=13) Tryd.func40 rfl (by decide) rfl rfl (by simp) (fun C h0=>?_)
    simp only [argE]
    repeat' (first|(with_reducible apply zz1)|((with_reducible apply zz2);rfl;intro K' hK';simp only [WA,simprocAttr];(repeat (constructor;focus (clear hK';intros;simp_all;done)));(try (apply hK';clear hK' K')))|((with_reducible apply zz3);rfl;all_goals (intro h;try exact absurd h (by decide))))
    refine stop_callF rfl (by simp only [WA,simprocAttr]) rfl rfl (hn) ?_
    simp only [WA,simprocAttr,inX,dropS,e2,e3,Bool.not_true,Bool.not_false,cond_true,cond_false]
    (repeat (constructor;focus (clear hK';intros;simp_all;done)))
    (try (apply hK';clear hK' K'))
    repeat' (first|(with_reducible apply zz1)|((with_reducible apply zz2);rfl;intro K' hK';simp only [WA,simprocAttr];(repeat (constructor;focus (clear hK';intros;simp_all;done)));(try (apply hK';clear hK' K')))|((with_reducible apply zz3);rfl;all_goals (intro h;try exact absurd h (by decide))))
    simp only [Kret,retL,retOne,oneV,WA,simprocAttr,Bool.not_true]
   | false =>
    refine fn_of_swp (N:=13) Tryd.func40 rfl (by decide) rfl rfl (by simp) (fun C h0=>?_)
    simp only [argE]
    repeat' (first|(with_reducible apply zz1)|((with_reducible apply zz2);rfl;intro K' hK';simp only [WA,simprocAttr];(repeat (constructor;focus (clear hK';intros;simp_all;done)));(try (apply hK';clear hK' K')))|((with_reducible apply zz3);rfl;all_goals (intro h;try exact absurd h (by decide))))
    refine stop_callF rfl (by simp only [WA,simprocAttr]) rfl rfl (hn) ?_
    simp only [WA,simprocAttr,inX,dropS,e2,e3,Bool.not_true,Bool.not_false,cond_true,cond_false]
    (repeat (constructor;focus (clear hK';intros;simp_all;done)))
    (try (apply hK';clear hK' K'))
    repeat' (first|(with_reducible apply zz1)|((with_reducible apply zz2);rfl;intro K' hK';simp only [WA,simprocAttr];(repeat (constructor;focus (clear hK';intros;simp_all;done)));(try (apply hK';clear hK' K')))|((with_reducible apply zz3);rfl;all_goals (intro h;try exact absurd h (by decide))))
    simp only [Kret,retL,retOne,oneV,WA,simprocAttr,Bool.not_false]
def leB (s p : ByteArray) : Bool:=Op.bytesLess s.toList p.toList || s.toList == p.toList
def labGo : ByteArray → List ByteArray → Bool
 | _,[]=>true
 | p,s :: l=>if isNameB s = true then (if leB s p = true then false else labGo s l) else false
def labAll : List ByteArray → Bool
 | []=>true
 | s :: l=>if isNameB s = true then labGo s l else false
def labelsB (ls : List ByteArray) : Bool:=if ls.length < 1 then false else if 6 < ls.length then false else labAll ls
def labRest (ls : List ByteArray) : Nat → Bool
 | 0=>labAll ls
 | j + 1=>labGo (ls.getD j ⟨#[]⟩) (ls.drop (j + 1))

end Go.Proofs.YtlnmkdbcdcknjaaDoor
