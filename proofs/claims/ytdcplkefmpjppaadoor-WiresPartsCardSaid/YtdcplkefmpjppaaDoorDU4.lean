/- types.shaped: a symbolic walk. -/
-- TYPESA
import Derived.Test.YtdcplkefmpjppaaDoorDU2
import Derived.Test.YtdcplkefmpjppaaDoorSwD
set_option linter.unusedVariables false
set_option linter.unusedSimpArgs false
namespace Go.Proofs.YtdcplkefmpjppaaDoor
open Go.RowKit Go.Sw
open Go.Sw renaming swp_seq → zw0

inductive Tp where
 | mk (k so : Int) (nm : ByteArray) (ls : List ByteArray) (kids : List Tp)
mutual
def Tp.d : Tp → D
 | .mk k so nm ls l=>.agg [.v (.int .i64 k),.v (.int .i64 so),.v (.string nm),.slc (ls.map fun b=>.v (.string b)),.slc (Tp.ds l)]
def Tp.ds : List Tp → List D
 | []=>[]
 | x :: l=>Tp.d x :: Tp.ds l
end
theorem Tp.ds_len : ∀ l : List Tp,(Tp.ds l).length = l.length
 | []=>rfl
 | x :: l=>by simp [Tp.ds,Tp.ds_len l]
theorem Tp.ds_get : ∀ (l : List Tp) (j : Nat) (x : Tp),l[j]? = some x → (Tp.ds l).getD j default = x.d
 | y :: l,0,x,h=>by simp at h;subst h;simp [Tp.ds]
 | y :: l,j + 1,x,h=>by
  have:=Tp.ds_get l j x (by simpa using h)
  simpa [Tp.ds] using this
def emptyB (s : ByteArray) : Bool:=s.toList == ByteArray.toList ⟨#[]⟩
def sortB (sort : Bool) (so : Int) : Bool:=if sort = true then (if 1 ≤ so then decide (so ≤ 3) else false) else so == 0
def kindOf (k : Int) (n : Nat) : Option (Nat × Bool × Bool × Bool) :=
 if k = 1 then some (0,false,false,false) else if k = 2 ∨ k = 3 then some (1,true,false,false) else if k = 4 ∨ k = 5 then some (2,false,false,false)
 else if k = 6 ∨ k = 7 then some (n,false,false,true) else if k = 8 then some (1,false,true,false) else if k = 9 then some (0,false,true,false) else none
def shapeB (i : Nat × Bool × Bool × Bool) (so : Int) (nm : ByteArray) (ls : List ByteArray) (n : Nat) : Bool :=
 if n = i.1 then (if sortB i.2.1 so = true then (if (if i.2.2.1 = true then isVarB nm else emptyB nm) = true then (if i.2.2.2 = true then labelsB ls else decide (ls.length = 0)) else false) else false) else false
def shapedB : Tp → Bool
 | .mk k so nm ls l=>match kindOf k ls.length with
  | some i=>shapeB i so nm ls l.length
  | none=>false

theorem kind_four {k : Int} {n : Nat} {i : Nat × Bool × Bool × Bool} (h : kindOf k n = some i) : i.2 = (false,false,false) ∨ i.2 = (true,false,false) ∨ i.2 = (false,false,true) ∨ i.2 = (false,true,false):=by
 unfold kindOf at h
 split at h
 · cases h;exact Or.inl rfl
 split at h
 · cases h;exact Or.inr (Or.inl rfl)
 split at h
 · cases h;exact Or.inl rfl
 split at h
 · cases h;exact Or.inr (Or.inr (Or.inl rfl))
 split at h
 · cases h;exact Or.inr (Or.inr (Or.inr rfl))
 split at h
 · cases h;exact Or.inr (Or.inr (Or.inr rfl))
 · cases h

set_option maxHeartbeats 16000000 in
set_option maxRecDepth 100000 in
theorem shaped_fn (Γ : Gl) (x : Tp) : DFn Tryd.prog Γ 120 [x.d] (.v (.bool (shapedB x))):=by
 obtain ⟨k,so,nm,ls,l⟩:=x
 have hll:=Tp.ds_len l
 have hv:=isVar_fn Γ nm
 have hlb:=labels_fn Γ ls
 obtain ⟨R,hR⟩ : ∃ R,shapedB (.mk k so nm ls l) = R:=⟨_,rfl⟩
 rw [hR]
 simp only [Tp.d]
 refine fn_of_swp (N:=87) Tryd.func120 rfl (by decide) rfl rfl (by simp) (fun C h0=>?_)
 simp only [argE]
 refine zw0 ?_
 (with_reducible refine swp_region ?_ (fun K' hK'=>?_)
  · rfl
  simp only [WA,simprocAttr]
  (repeat (constructor;focus (clear hK';intros;simp_all;done))))
 refine hK' _ _ ?_
 clear hK' K'
 refine kseq_n ?_
 refine zw0 ?_
 (with_reducible refine swp_region ?_ (fun K' hK'=>?_)
  · rfl
  simp only [WA,simprocAttr]
  (repeat (constructor;focus (clear hK';intros;simp_all;done))))
 refine hK' _ _ ?_
 clear hK' K'
 refine kseq_n ?_
 refine zw0 ?_
 refine swp_midF (ι := Nat × Bool × Bool × Bool) (fun i=>[(1,.ref 0 0),(3,.d (iD i.1)),(4,.d (.v (.bool i.2.1))),(5,.d (.v (.bool i.2.2.1))),(6,.d (.v (.bool i.2.2.2)))])
  (fun _=>[(0,.cells [.d (iD k),.d (iD so),.d (sD nm),.d (.slc (ls.map sD)),.d (.slc (Tp.ds l))])]) (fun i=>kindOf k ls.length = some i) ?_ (fun i hi=>?_)
 · have hRn : kindOf k ls.length = none → R = false:=fun h=>by rw [← hR,shapedB,h]
   clear hv hlb hR
   repeat' (first|(with_reducible apply zz1)|((with_reducible apply zz2);rfl;intro K' hK';simp only [WA,simprocAttr,List.length_map];(repeat (constructor;focus (clear hK';intros;simp_all;done)));(try (apply hK';clear hK' K')))|((with_reducible apply zz3);rfl;all_goals (intro h;try exact absurd h (by decide))))
   all_goals first
    | (exfalso;clear hRn;simp_all;done)
    | (refine kfam_r ?_;simp only [Kret,retL,retOne,oneV,WA,simprocAttr];rw [hRn (by clear hRn;simp_all [kindOf])];done)
    | (refine kfam_n (0,false,false,false) ?_ ?_;(focus (clear hRn;simp_all [kindOf];done));refine sub_of h0 ?_ ?_ ?_ <;> simp only [US,WA,simprocAttr])
    | (refine kfam_n (1,true,false,false) ?_ ?_;(focus (clear hRn;simp_all [kindOf];done));refine sub_of h0 ?_ ?_ ?_ <;> simp only [US,WA,simprocAttr])
    | (refine kfam_n (2,false,false,false) ?_ ?_;(focus (clear hRn;simp_all [kindOf];done));refine sub_of h0 ?_ ?_ ?_ <;> simp only [US,WA,simprocAttr])
    | (refine kfam_n (ls.length,false,false,true) ?_ ?_;(focus (clear hRn;simp_all [kindOf];done));refine sub_of h0 ?_ ?_ ?_ <;> simp only [US,WA,simprocAttr])
    | (refine kfam_n (1,false,true,false) ?_ ?_;(focus (clear hRn;simp_all [kindOf];done));refine sub_of h0 ?_ ?_ ?_ <;> simp only [US,WA,simprocAttr])
    | (refine kfam_n (0,false,true,false) ?_ ?_;(focus (clear hRn;simp_all [kindOf];done));refine sub_of h0 ?_ ?_ ?_ <;> simp only [US,WA,simprocAttr])
 have h4:=kind_four hi
 obtain ⟨n,so',nm',ls'⟩:=i
 simp only [Prod.mk.injEq] at h4
 simp only [shapedB,hi] at hR
 refine zw0 ?_
 -- TRACE
 (with_reducible refine swp_regionA ?_ ( [(30,.v (.bool (isVarB nm))),(47,.v (.bool (labelsB ls)))]) (fun K' hK'=>?_)
  · rfl
  simp only [WA,simprocAttr,UG,hll,hv,hlb,List.length_map ]
  (repeat (constructor;focus (clear hK';intros;simp_all;done)))
  (try (apply hK';clear hK' K')))
 repeat' (first|(with_reducible apply zz1)|((with_reducible apply zz2);rfl;intro K' hK';simp only [WA,simprocAttr];(repeat (constructor;focus (clear hK';intros;simp_all;done)));(try (apply hK';clear hK' K')))|((with_reducible apply zz3);rfl;all_goals (intro h;try exact absurd h (by decide))))
 simp only [Kret,retL,retOne,oneV,WA,simprocAttr]
 rw [← hR]
 clear hR hv hlb hi
 unfold shapeB sortB emptyB
 refine congrArg (fun b=>some (D.v (Value.bool b))) ?_
 have q1 : ((l.length : Int) == (n : Int)) = decide (l.length = n):=by
  rw [Bool.eq_iff_iff,beq_iff_eq,decide_eq_true_iff];omega
 have q2 : ((ls.length : Int) == 0) = decide (ls.length = 0):=by
  rw [Bool.eq_iff_iff,beq_iff_eq,decide_eq_true_iff];omega
 rw [q1,q2]
 generalize isVarB nm = v
 generalize labelsB ls = lb
 generalize (nm.toList == ByteArray.toList ⟨#[]⟩) = em
 rcases h4 with ⟨rfl,rfl,rfl⟩ | ⟨rfl,rfl,rfl⟩ | ⟨rfl,rfl,rfl⟩ | ⟨rfl,rfl,rfl⟩
 all_goals
  by_cases hn : l.length = n <;> by_cases h1 : 1 ≤ so <;> by_cases h3 : so ≤ 3 <;> by_cases hz : so = 0 <;> by_cases hL : ls.length = 0 <;> first
   | (exfalso;omega)
   | (cases v <;> cases lb <;> cases em <;> simp [hn,h1,h3,hz,hL];done)
   | (simp [hn,h1,h3,hz,hL];done)
end Go.Proofs.YtdcplkefmpjppaaDoor
