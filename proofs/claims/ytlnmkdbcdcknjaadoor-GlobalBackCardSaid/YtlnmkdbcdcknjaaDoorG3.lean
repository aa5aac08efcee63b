/- global.shaped: a symbolic walk. -/
-- TYPESA
import Derived.Test.YtlnmkdbcdcknjaaDoorG1
import Derived.Test.YtlnmkdbcdcknjaaDoorG2
import Derived.Test.YtlnmkdbcdcknjaaDoorU4
set_option linter.unusedVariables false
set_option linter.unusedSimpArgs false
namespace Go.Proofs.YtlnmkdbcdcknjaaDoor.GG
open Go.RowKit Go.Sw
open Go.Sw renaming swp_seq → zw0

def kindG (k : Int) (n : Nat) : Option (Nat × Bool × Bool × Bool × Bool) :=
 if k = 1 then some (0,false,false,false,false) else if k = 2 then some (1,true,true,false,false)
 else if k = 6 then some (n,true,false,false,true) else if k = 8 then some (1,false,false,true,false) else if k = 9 then some (0,false,false,true,false) else none
def rolesB (r : Bool) (fr to : ByteArray) : Bool:=if r = true then (if isRoleB fr = true then (if isRoleB to = true then !(fr.toList == to.toList) else false) else false) else (if emptyB fr = true then emptyB to else false)
def shapeG (i : Nat × Bool × Bool × Bool × Bool) (fr to : ByteArray) (so : Int) (nm : ByteArray) (ls : List ByteArray) (n : Nat) : Bool :=
 if n = i.1 then (if sortB i.2.2.1 so = true then (if (if i.2.2.2.1 = true then isVarB nm else emptyB nm) = true then (if (if i.2.2.2.2 = true then labelsB ls else decide (ls.length = 0)) = true then rolesB i.2.1 fr to else false) else false) else false) else false
def shapedG : Gt → Bool
 | .mk k fr to so nm ls l=>match kindG k ls.length with
  | some i=>shapeG i fr to so nm ls l.length
  | none=>false
theorem kindG_four {k : Int} {n : Nat} {i : Nat × Bool × Bool × Bool × Bool} (h : kindG k n = some i) : i.2 = (false,false,false,false) ∨ i.2 = (true,true,false,false) ∨ i.2 = (true,false,false,true) ∨ i.2 = (false,false,true,false):=by
 unfold kindG at h
 split at h
 · cases h;exact Or.inl rfl
 split at h
 · cases h;exact Or.inr (Or.inl rfl)
 split at h
 · cases h;exact Or.inr (Or.inr (Or.inl rfl))
 split at h
 · cases h;exact Or.inr (Or.inr (Or.inr rfl))
 split at h
 · cases h;exact Or.inr (Or.inr (Or.inr rfl))
 · cases h

set_option maxHeartbeats 16000000 in
set_option maxRecDepth 100000 in
theorem shapedG_fn (Γ : Gl) (x : Gt) : DFn Tryd.prog Γ 53 [x.d] (.v (.bool (shapedG x))):=by
 obtain ⟨k,fr,to,so,nm,ls,l⟩:=x
 have hll:=Gt.ds_len l
 have hv:=isVar_fn Γ nm
 have hlb:=labelsG_fn Γ ls
 have hr1:=isRole_fn Γ fr
 have hr2:=isRole_fn Γ to
 obtain ⟨R,hR⟩ : ∃ R,shapedG (.mk k fr to so nm ls l) = R:=⟨_,rfl⟩
 rw [hR]
 simp only [Gt.d]
 refine fn_of_swp (N:=122) Tryd.func53 rfl (by decide) rfl rfl (by simp) (fun C h0=>?_)
 simp only [argE]
 refine zw0 ?_
 (with_reducible refine swp_region ?_ (fun K' hK'=>?_)
  · rfl
  simp only [WA,simprocAttr]
  (repeat (constructor;focus (clear hK';intros;simp_all;done))))
 refine hK' _ _ ?_
 clear hK' K'
 refine kseq_n ?_
 refine zw0 ?_
 (with_reducible refine swp_region ?_ (fun K' hK'=>?_)
  · rfl
  simp only [WA,simprocAttr]
  (repeat (constructor;focus (clear hK';intros;simp_all;done))))
 refine hK' _ _ ?_
 clear hK' K'
 refine kseq_n ?_
 refine zw0 ?_
 refine swp_midF (ι := Nat × Bool × Bool × Bool × Bool) (fun i=>[(1,.ref 0 0),(3,.d (.v (.bool i.2.1))),(4,.d (.v (.bool i.2.2.1))),(5,.d (.v (.bool i.2.2.2.1))),(6,.d (.v (.bool i.2.2.2.2))),(7,.d (iD i.1))])
  (fun _=>[(0,.cells [.d (iD k),.d (sD fr),.d (sD to),.d (iD so),.d (sD nm),.d (.slc (ls.map sD)),.d (.slc (Gt.ds l))])]) (fun i=>kindG k ls.length = some i) ?_ (fun i hi=>?_)
 · have hRn : kindG k ls.length = none → R = false:=fun h=>by rw [← hR,shapedG,h]
   clear hv hlb hr1 hr2 hR
   repeat' (first|(with_reducible apply zz1)|((with_reducible apply zz2);rfl;intro K' hK';simp only [WA,simprocAttr,List.length_map];(repeat (constructor;focus (clear hK';intros;simp_all;done)));(try (apply hK';clear hK' K')))|((with_reducible apply zz3);rfl;all_goals (intro h;try exact absurd h (by decide))))
   all_goals first
    | (exfalso;clear hRn;simp_all;done)
    | (refine kfam_r ?_;simp only [Kret,retL,retOne,oneV,WA,simprocAttr];rw [hRn (by clear hRn;simp_all [kindG])];done)
    | (refine kfam_n (0,false,false,false,false) ?_ ?_;(focus (clear hRn;simp_all [kindG];done));refine sub_of h0 ?_ ?_ ?_ <;> simp only [US,WA,simprocAttr])
    | (refine kfam_n (1,true,true,false,false) ?_ ?_;(focus (clear hRn;simp_all [kindG];done));refine sub_of h0 ?_ ?_ ?_ <;> simp only [US,WA,simprocAttr])
    | (refine kfam_n (ls.length,true,false,false,true) ?_ ?_;(focus (clear hRn;simp_all [kindG];done));refine sub_of h0 ?_ ?_ ?_ <;> simp only [US,WA,simprocAttr])
    | (refine kfam_n (1,false,false,true,false) ?_ ?_;(focus (clear hRn;simp_all [kindG];done));refine sub_of h0 ?_ ?_ ?_ <;> simp only [US,WA,simprocAttr])
    | (refine kfam_n (0,false,false,true,false) ?_ ?_;(focus (clear hRn;simp_all [kindG];done));refine sub_of h0 ?_ ?_ ?_ <;> simp only [US,WA,simprocAttr])
    | skip
   (with_reducible refine swp_draw ?_ ?_ ?_ ([]) (fun K' hK'=>?_)
    · kernel_rfl
    · rfl
    · rfl
    simp only [WA,simprocAttr,UG, ]
    (try (apply hK';clear hK' K')))
   repeat' (first|(with_reducible apply zz1)|((with_reducible apply zz2);rfl;intro K' hK';simp only [WA,simprocAttr];(repeat (constructor;focus (clear hK';intros;simp_all;done)));(try (apply hK';clear hK' K')))|((with_reducible apply zz3);rfl;all_goals (intro h;try exact absurd h (by decide))))
   all_goals (refine kfam_n (ls.length,true,false,false,true) ?_ ?_;(focus (clear hRn;simp_all [kindG];done));refine sub_of h0 ?_ ?_ ?_ <;> simp only [US,WA,simprocAttr,List.length_map])
 have h4:=kindG_four hi
 obtain ⟨n,ro,so',nm',ls'⟩:=i
 simp only [Prod.mk.injEq] at h4
 simp only [shapedG,hi] at hR
 refine zw0 ?_
 (with_reducible refine swp_regionA ?_ ( []) (fun K' hK'=>?_)
  · rfl
  simp only [WA,simprocAttr,UG,hll,List.length_map ]
  (repeat (constructor;focus (clear hK';intros;simp_all;done)))
  (try (apply hK';clear hK' K')))
 refine zw0 ?_
 (with_reducible refine swp_regionA ?_ ( [(6,.v (.bool (isVarB nm))),(23,.v (.bool (labelsB ls)))]) (fun K' hK'=>?_)
  · rfl
  simp only [WA,simprocAttr,UG,hv,hlb,List.length_map ]
  (repeat (constructor;focus (clear hK';intros;simp_all;done)))
  (try (apply hK';clear hK' K')))
 refine zw0 ?_
 (with_reducible refine swp_regionA ?_ ( [(6,.v (.bool (isRoleB fr))),(11,.v (.bool (isRoleB to)))]) (fun K' hK'=>?_)
  · rfl
  simp only [WA,simprocAttr,UG,hr1,hr2 ]
  (repeat (constructor;focus (clear hK';intros;simp_all;done)))
  (try (apply hK';clear hK' K')))
 repeat' (first|(with_reducible apply zz1)|((with_reducible apply zz2);rfl;intro K' hK';simp only [WA,simprocAttr];(repeat (constructor;focus (clear hK';intros;simp_all;done)));(try (apply hK';clear hK' K')))|((with_reducible apply zz3);rfl;all_goals (intro h;try exact absurd h (by decide))))
 simp only [Kret,retL,retOne,oneV,WA,simprocAttr]
 rw [← hR]
 clear hR hv hlb hi hr1 hr2
 unfold shapeG sortB emptyB rolesB
 refine congrArg (fun b=>some (D.v (Value.bool b))) ?_
 have q1 : ((l.length : Int) == (n : Int)) = decide (l.length = n):=by
  rw [Bool.eq_iff_iff,beq_iff_eq,decide_eq_true_iff];omega
 have q2 : ((ls.length : Int) == 0) = decide (ls.length = 0):=by
  rw [Bool.eq_iff_iff,beq_iff_eq,decide_eq_true_iff];omega
 rw [q1,q2]
 simp only
 generalize isVarB nm = v
 generalize labelsB ls = lb
 generalize isRoleB fr = b1
 generalize isRoleB to = b2
 generalize (nm.toList == ByteArray.toList ⟨#[]⟩) = em
 change _ = _
 have e1 : (fr.toList == ByteArray.toList ⟨#[]⟩) = emptyB fr:=rfl
 have e2 : (to.toList == ByteArray.toList ⟨#[]⟩) = emptyB to:=rfl
 rw [e1,e2]
 generalize emptyB fr = ef
 generalize emptyB to = et
 generalize (fr.toList == to.toList) = ft
 rcases h4 with ⟨rfl,rfl,rfl,rfl⟩ | ⟨rfl,rfl,rfl,rfl⟩ | ⟨rfl,rfl,rfl,rfl⟩ | ⟨rfl,rfl,rfl,rfl⟩
 all_goals
  by_cases hn : l.length = n <;> by_cases h1 : 1 ≤ so <;> by_cases h3 : so ≤ 3 <;> by_cases hz : so = 0 <;> by_cases hL : ls.length = 0 <;> first
   | (exfalso;omega)
   | (simp [hn,h1,h3,hz,hL];done)
   | (simp only [hn,h1,h3,hz,hL];cases v <;> cases lb <;> cases em <;> simp;done)
   | (simp only [hn,h1,h3,hz,hL];cases v <;> cases lb <;> cases em <;> cases b1 <;> cases b2 <;> cases ef <;> cases et <;> cases ft <;> simp;done)
end Go.Proofs.YtlnmkdbcdcknjaaDoor.GG
