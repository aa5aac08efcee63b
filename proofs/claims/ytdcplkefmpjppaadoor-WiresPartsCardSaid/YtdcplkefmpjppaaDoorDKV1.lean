/- values.Check; a symbolic walk. -/
-- TYPESE
import Derived.Test.YtdcplkefmpjppaaDoorDTE
import Derived.Test.YtdcplkefmpjppaaDoorDU6
set_option linter.unusedVariables false
set_option linter.unusedSimpArgs false
namespace Go.Proofs.YtdcplkefmpjppaaDoor
open Go.RowKit Go.Sw

def VSok (Γ : Gl) (f : ByteArray → Bool) : Prop := ∀ s : ByteArray,s.size ≤ 100 → DFn Tryd.prog Γ 98 [sD s] (.v (.bool (f s)))
def emB (s : ByteArray) : Bool:=s.toList == ByteArray.toList ⟨#[]⟩
def vchk (f : ByteArray → Bool) (s n : Int) (S : ByteArray) : Int :=
 if s = 1 then (if emB S = true then 0 else 1)
 else if s = 2 then (if emB S = true then (if n = 0 then 0 else if n = 1 then 0 else 1) else 1)
 else if s = 3 then (if n = 0 then (if 100 < S.size then 2 else if f S = true then 0 else 1) else 1)
 else 1
set_option maxHeartbeats 8000000 in
set_option maxRecDepth 100000 in
theorem vcheck_fn (Γ : Gl) {f : ByteArray → Bool} (hv : VSok Γ f) (s n : Int) (S : ByteArray) : DFn Tryd.prog Γ 70 [.agg [iD s,iD n,sD S]] (iD (vchk f s n S)):=by
 obtain ⟨R,hR⟩ : ∃ R,vchk f s n S = R:=⟨_,rfl⟩
 rw [hR]
 unfold vchk emB at hR
 by_cases h1 : s = 1
 · subst h1
   rw [if_pos rfl] at hR
   cases g2 : (S.toList == ByteArray.toList ⟨#[]⟩) with
   | true =>
    rw [g2,if_pos rfl] at hR
    subst hR
    refine fn_of_swp (N:=48) Tryd.func70 rfl (by decide) rfl rfl (by simp) (fun C h0=>?_)
    simp only [argE]
    repeat' (first|(with_reducible apply zz1)|((with_reducible apply zz2);rfl;intro K' hK';simp only [WE,simprocAttr,g2,Bool.not_true,Bool.not_false,cond_true,cond_false,bne_self_eq_false,beq_self_eq_true];(repeat (constructor;focus (clear hK';intros;simp_all;done)));(try (apply hK';clear hK' K')))|((with_reducible apply zz3);rfl;all_goals (intro h;try exact absurd h (by decide))))
    simp only [Kret,retL,retOne,oneV,WE,simprocAttr]
   | false =>
    rw [g2,if_neg (by decide)] at hR
    subst hR
    refine fn_of_swp (N:=48) Tryd.func70 rfl (by decide) rfl rfl (by simp) (fun C h0=>?_)
    simp only [argE]
    repeat' (first|(with_reducible apply zz1)|((with_reducible apply zz2);rfl;intro K' hK';simp only [WE,simprocAttr,g2,Bool.not_true,Bool.not_false,cond_true,cond_false,bne_self_eq_false,beq_self_eq_true,Int.reduceBEq];(repeat (constructor;focus (clear hK';intros;simp_all;done)));(try (apply hK';clear hK' K')))|((with_reducible apply zz3);rfl;all_goals (intro h;try exact absurd h (by decide))))
    simp only [Kret,retL,retOne,oneV,WE,simprocAttr]
 have g1 : (s == 1) = false:=by simpa using h1
 rw [if_neg h1] at hR
 by_cases h2 : s = 2
 · subst h2
   rw [if_pos rfl] at hR
   cases g2 : (S.toList == ByteArray.toList ⟨#[]⟩) with
   | true =>
    rw [g2,if_pos rfl] at hR
    by_cases h4 : n = 0
    · subst h4
      rw [if_pos rfl] at hR
      subst hR
      refine fn_of_swp (N:=48) Tryd.func70 rfl (by decide) rfl rfl (by simp) (fun C h0=>?_)
      simp only [argE]
      repeat' (first|(with_reducible apply zz1)|((with_reducible apply zz2);rfl;intro K' hK';simp only [WE,simprocAttr,g2,Bool.not_true,Bool.not_false,cond_true,cond_false,bne_self_eq_false,beq_self_eq_true,Int.reduceBEq];(repeat (constructor;focus (clear hK';intros;simp_all;done)));(try (apply hK';clear hK' K')))|((with_reducible apply zz3);rfl;all_goals (intro h;try exact absurd h (by decide))))
      simp only [Kret,retL,retOne,oneV,WE,simprocAttr]
    have g4 : (n == 0) = false:=by simpa using h4
    rw [if_neg h4] at hR
    by_cases h5 : n = 1
    · subst h5
      rw [if_pos rfl] at hR
      subst hR
      refine fn_of_swp (N:=48) Tryd.func70 rfl (by decide) rfl rfl (by simp) (fun C h0=>?_)
      simp only [argE]
      repeat' (first|(with_reducible apply zz1)|((with_reducible apply zz2);rfl;intro K' hK';simp only [WE,simprocAttr,g2,g4,Bool.not_true,Bool.not_false,cond_true,cond_false,bne_self_eq_false,beq_self_eq_true,Int.reduceBEq];(repeat (constructor;focus (clear hK';intros;simp_all;done)));(try (apply hK';clear hK' K')))|((with_reducible apply zz3);rfl;all_goals (intro h;try exact absurd h (by decide))))
      simp only [Kret,retL,retOne,oneV,WE,simprocAttr]
    have g5 : (n == 1) = false:=by simpa using h5
    rw [if_neg h5] at hR
    subst hR
    refine fn_of_swp (N:=48) Tryd.func70 rfl (by decide) rfl rfl (by simp) (fun C h0=>?_)
    simp only [argE]
    repeat' (first|(with_reducible apply zz1)|((with_reducible apply zz2);rfl;intro K' hK';simp only [WE,simprocAttr,g2,g4,g5,Bool.not_true,Bool.not_false,cond_true,cond_false,bne_self_eq_false,beq_self_eq_true,Int.reduceBEq];(repeat (constructor;focus (clear hK';intros;simp_all;done)));(try (apply hK';clear hK' K')))|((with_reducible apply zz3);rfl;all_goals (intro h;try exact absurd h (by decide))))
    simp only [Kret,retL,retOne,oneV,WE,simprocAttr]
   | false =>
    rw [g2,if_neg (by decide)] at hR
    subst hR
    refine fn_of_swp (N:=48) Tryd.func70 rfl (by decide) rfl rfl (by simp) (fun C h0=>?_)
    simp only [argE]
    repeat' (first|(with_reducible apply zz1)|((with_reducible apply zz2);rfl;intro K' hK';simp only [WE,simprocAttr,g2,Bool.not_true,Bool.not_false,cond_true,cond_false,bne_self_eq_false,beq_self_eq_true,Int.reduceBEq];(repeat (constructor;focus (clear hK';intros;simp_all;done)));(try (apply hK';clear hK' K')))|((with_reducible apply zz3);rfl;all_goals (intro h;try exact absurd h (by decide))))
    simp only [Kret,retL,retOne,oneV,WE,simprocAttr]
 have g2 : (s == 2) = false:=by simpa using h2
 rw [if_neg h2] at hR
 by_cases h3 : s = 3
 · subst h3
   rw [if_pos rfl] at hR
   by_cases h4 : n = 0
   · subst h4
     rw [if_pos rfl] at hR
     by_cases h5 : 100 < S.size
     · have g5 : (100 : Int) < (S.size : Int):=by omega
       rw [if_pos h5] at hR
       subst hR
       refine fn_of_swp (N:=48) Tryd.func70 rfl (by decide) rfl rfl (by simp) (fun C h0=>?_)
       simp only [argE]
       repeat' (first|(with_reducible apply zz1)|((with_reducible apply zz2);rfl;intro K' hK';simp only [WE,simprocAttr,g5,Bool.not_true,Bool.not_false,cond_true,cond_false,bne_self_eq_false,beq_self_eq_true,Int.reduceBEq];(repeat (constructor;focus (clear hK';intros;simp_all;done)));(try (apply hK';clear hK' K')))|((with_reducible apply zz3);rfl;all_goals (intro h;try exact absurd h (by decide))))
       simp only [Kret,retL,retOne,oneV,WE,simprocAttr]
     have g5 : ¬ (100 : Int) < (S.size : Int):=by omega
     rw [if_neg h5] at hR
     have hf:=hv S (by omega)
     cases g6 : f S with
     | true =>
      rw [g6,if_pos rfl] at hR
      rw [g6] at hf
      subst hR
      refine fn_of_swp (N:=48) Tryd.func70 rfl (by decide) rfl rfl (by simp) (fun C h0=>?_)
      simp only [argE]
      repeat' (first|(with_reducible apply zz1)|((with_reducible apply zz2);rfl;intro K' hK';simp only [WE,simprocAttr,g5,Bool.not_true,Bool.not_false,cond_true,cond_false,bne_self_eq_false,beq_self_eq_true,Int.reduceBEq];(repeat (constructor;focus (clear hK';intros;simp_all;done)));(try (apply hK';clear hK' K')))|((with_reducible apply zz3);rfl;all_goals (intro h;try exact absurd h (by decide))))
      refine stop_callF rfl (by simp only [WE,simprocAttr]) rfl rfl (hf) ?_
      simp only [WE,simprocAttr,inX,dropS,Bool.not_true,Bool.not_false,cond_true,cond_false,bne_self_eq_false,beq_self_eq_true]
      (repeat (constructor;focus (clear hK';intros;simp_all;done)))
      (try (apply hK';clear hK' K'))
      repeat' (first|(with_reducible apply zz1)|((with_reducible apply zz2);rfl;intro K' hK';simp only [WE,simprocAttr,Bool.not_true,Bool.not_false,cond_true,cond_false,bne_self_eq_false,beq_self_eq_true];(repeat (constructor;focus (clear hK';intros;simp_all;done)));(try (apply hK';clear hK' K')))|((with_reducible apply zz3);rfl;all_goals (intro h;try exact absurd h (by decide))))
      simp only [Kret,retL,retOne,oneV,WE,simprocAttr]
     | false =>
      rw [g6,if_neg (by decide)] at hR
      rw [g6] at hf
      subst hR
      refine fn_of_swp (N:=48) Tryd.func70 rfl (by decide) rfl rfl (by simp) (fun C h0=>?_)
      simp only [argE]
      repeat' (first|(with_reducible apply zz1)|((with_reducible apply zz2);rfl;intro K' hK';simp only [WE,simprocAttr,g5,Bool.not_true,Bool.not_false,cond_true,cond_false,bne_self_eq_false,beq_self_eq_true,Int.reduceBEq];(repeat (constructor;focus (clear hK';intros;simp_all;done)));(try (apply hK';clear hK' K')))|((with_reducible apply zz3);rfl;all_goals (intro h;try exact absurd h (by decide))))
      refine stop_callF rfl (by simp only [WE,simprocAttr]) rfl rfl (hf) ?_
      simp only [WE,simprocAttr,inX,dropS,Bool.not_true,Bool.not_false,cond_true,cond_false,bne_self_eq_false,beq_self_eq_true]
      (repeat (constructor;focus (clear hK';intros;simp_all;done)))
      (try (apply hK';clear hK' K'))
      repeat' (first|(with_reducible apply zz1)|((with_reducible apply zz2);rfl;intro K' hK';simp only [WE,simprocAttr,Bool.not_true,Bool.not_false,cond_true,cond_false,bne_self_eq_false,beq_self_eq_true];(repeat (constructor;focus (clear hK';intros;simp_all;done)));(try (apply hK';clear hK' K')))|((with_reducible apply zz3);rfl;all_goals (intro h;try exact absurd h (by decide))))
      simp only [Kret,retL,retOne,oneV,WE,simprocAttr]
   have g4 : (n == 0) = false:=by simpa using h4
   rw [if_neg h4] at hR
   subst hR
   refine fn_of_swp (N:=48) Tryd.func70 rfl (by decide) rfl rfl (by simp) (fun C h0=>?_)
   simp only [argE]
   repeat' (first|(with_reducible apply zz1)|((with_reducible apply zz2);rfl;intro K' hK';simp only [WE,simprocAttr,g4,Bool.not_true,Bool.not_false,cond_true,cond_false,bne_self_eq_false,beq_self_eq_true,Int.reduceBEq];(repeat (constructor;focus (clear hK';intros;simp_all;done)));(try (apply hK';clear hK' K')))|((with_reducible apply zz3);rfl;all_goals (intro h;try exact absurd h (by decide))))
   simp only [Kret,retL,retOne,oneV,WE,simprocAttr]
 have g3 : (s == 3) = false:=by simpa using h3
 rw [if_neg h3] at hR
 subst hR
 refine fn_of_swp (N:=48) Tryd.func70 rfl (by decide) rfl rfl (by simp) (fun C h0=>?_)
 simp only [argE]
 repeat' (first|(with_reducible apply zz1)|((with_reducible apply zz2);rfl;intro K' hK';simp only [WE,simprocAttr,g1,g2,g3,Bool.not_true,Bool.not_false,cond_true,cond_false,bne_self_eq_false,beq_self_eq_true,Int.reduceBEq];(repeat (constructor;focus (clear hK';intros;simp_all;done)));(try (apply hK';clear hK' K')))|((with_reducible apply zz3);rfl;all_goals (intro h;try exact absurd h (by decide))))
 simp only [Kret,retL,retOne,oneV,WE,simprocAttr]
structure Ev where
 kd : Int
 vs : Int
 vn : Int
 vS : ByteArray
 c : Tp
 lab : ByteArray
def evD (kd vs vn : Int) (vS : ByteArray) (c : Tp) (lab : ByteArray) : D:=match c with
 | .mk k so nm ls l=>.agg [iD kd,iD vs,iD vn,sD vS,iD k,iD so,sD nm,.slc (ls.map sD),.slc (Tp.ds l),sD lab]
def Ev.d (x : Ev) : D:=evD x.kd x.vs x.vn x.vS x.c x.lab
end Go.Proofs.YtdcplkefmpjppaaDoor
