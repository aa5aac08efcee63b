/- Types that are right: plain. -/
import Derived.Test.YtdcplkefmpjppaaGreatDoorU5
import Derived.Test.YtdcplkefmpjppaaGreatDoorU2
import Derived.Test.YtdcplkefmpjppaaGreatDoorSwD
import Derived.Test.YtdcplkefmpjppaaGreatDoorTA
set_option linter.unusedVariables false
set_option linter.unusedSimpArgs false
namespace Go.Proofs.YtdcplkefmpjppaaGreatDoor
open Go.RowKit Go.Sw

abbrev noB : ByteArray:=⟨#[]⟩
theorem empty_of {s : ByteArray} (h : emptyB s = true) : s = noB:=by
 unfold emptyB at h
 have h:=eq_of_beq h
 rw [Lib.toList_data,Lib.toList_data] at h
 obtain ⟨d⟩:=s
 have : d = #[]:=Array.toList_inj.1 h
 rw [this]
theorem empty_rfl : emptyB noB = true:=by decide +kernel
inductive OkT : Tp → Prop
 | nil : OkT (.mk 1 0 noB [] [])
 | pass (k so : Int) (x : Tp) (hk : k = 2 ∨ k = 3) (h1 : 1 ≤ so) (h3 : so ≤ 3) (hx : OkT x) : OkT (.mk k so noB [] [x])
 | give (k : Int) (x y : Tp) (hk : k = 4 ∨ k = 5) (hx : OkT x) (hy : OkT y) : OkT (.mk k 0 noB [] [x,y])
 | pick (k : Int) (ls : List ByteArray) (l : List Tp) (hk : k = 6 ∨ k = 7) (hl : labelsB ls = true) (hn : l.length = ls.length) (h : ∀ x ∈ l,OkT x) : OkT (.mk k 0 noB ls l)
 | bind (nm : ByteArray) (x : Tp) (hn : isVarB nm = true) (hx : OkT x) : OkT (.mk 8 0 nm [] [x])
 | var (nm : ByteArray) (hn : isVarB nm = true) : OkT (.mk 9 0 nm [] [])
theorem sort_none {so : Int} (h : sortB false so = true) : so = 0:=by
 simpa [sortB] using h
theorem sort_some {so : Int} (h : sortB true so = true) : 1 ≤ so ∧ so ≤ 3:=by
 simpa [sortB] using h
theorem len_one {α : Type} {l : List α} (h : l.length = 1) : ∃ x,l = [x]:=by
 match l,h with
 | [x],_=>exact ⟨x,rfl⟩
theorem len_two {α : Type} {l : List α} (h : l.length = 2) : ∃ x y,l = [x,y]:=by
 match l,h with
 | [x,y],_=>exact ⟨x,y,rfl⟩
theorem ok_shape {k so : Int} {nm : ByteArray} {ls : List ByteArray} {l : List Tp} (h : shapedB (.mk k so nm ls l) = true) (hl : ∀ x ∈ l,OkT x) : OkT (.mk k so nm ls l):=by
 simp only [shapedB] at h
 split at h
 · rename_i i hi
   simp only [shapeB] at h
   split at h
   · rename_i hn
     unfold kindOf at hi
     split at hi
     · cases hi
       simp at h hn
       obtain ⟨h1,h2,h3⟩:=h
       rw [sort_none h1,empty_of h2,h3,hn]
       rename_i hk
       rw [hk]
       exact .nil
     split at hi
     · cases hi
       simp at h hn
       obtain ⟨h1,h2,h3⟩:=h
       obtain ⟨x,rfl⟩:=len_one hn
       rw [empty_of h2,h3]
       rename_i hk
       exact .pass k so x hk (sort_some h1).1 (sort_some h1).2 (hl x (by simp))
     split at hi
     · cases hi
       simp at h hn
       obtain ⟨h1,h2,h3⟩:=h
       obtain ⟨x,y,rfl⟩:=len_two hn
       rw [sort_none h1,empty_of h2,h3]
       rename_i hk
       exact .give k x y hk (hl x (by simp)) (hl y (by simp))
     split at hi
     · cases hi
       simp at h hn
       obtain ⟨h1,h2,h3⟩:=h
       rw [sort_none h1,empty_of h2]
       rename_i hk
       exact .pick k ls l hk h3 hn hl
     split at hi
     · cases hi
       simp at h hn
       obtain ⟨h1,h2,h3⟩:=h
       obtain ⟨x,rfl⟩:=len_one hn
       rw [sort_none h1,h3]
       rename_i hk
       rw [hk]
       exact .bind nm x h2 (hl x (by simp))
     split at hi
     · cases hi
       simp at h hn
       obtain ⟨h1,h2,h3⟩:=h
       rw [sort_none h1,h3,hn]
       rename_i hk
       rw [hk]
       exact .var nm h2
     · cases hi
   · cases h
 · cases h
mutual
theorem ok_tchk : ∀ (x : Tp) (b : List ByteArray) (left : Int),0 ≤ left → (tchk x b left).1 = 0 → OkT x ∧ (tchk x b left).2 = left - x.size
 | .mk k so nm ls l,b,left,h0,h=>by
  unfold tchk at h ⊢
  by_cases h1 : left - 1 < 0
  · rw [if_pos h1] at h;simp at h
  rw [if_neg h1] at h ⊢
  by_cases h2 : shapedB (.mk k so nm ls l) = false
  · rw [if_pos h2] at h;simp at h
  rw [if_neg h2] at h ⊢
  have key : ∀ b',(tchks l b' (left - 1)).1 = 0 → OkT (.mk k so nm ls l) ∧ (tchks l b' (left - 1)).2 = left - ((Tp.sizes l + 1 : Nat) : Int):=fun b' hb=>by
   have:=oks_tchk l b' (left - 1) (by omega) hb
   exact ⟨ok_shape (by simpa using h2) this.1,by rw [this.2];omega⟩
  simp only [Tp.size]
  by_cases h3 : k = 9
  · rw [if_pos h3] at h ⊢
    by_cases h4 : inL b nm = false
    · rw [if_pos h4] at h;simp at h
    · rw [if_neg h4] at h ⊢;exact key _ h
  rw [if_neg h3] at h ⊢
  by_cases h5 : k = 8
  · rw [if_pos h5] at h ⊢
    by_cases h6 : stripF l = 9
    · rw [if_pos h6] at h;simp at h
    · rw [if_neg h6] at h ⊢;exact key _ h
  · rw [if_neg h5] at h ⊢;exact key _ h
theorem oks_tchk : ∀ (l : List Tp) (b : List ByteArray) (left : Int),0 ≤ left → (tchks l b left).1 = 0 → (∀ x ∈ l,OkT x) ∧ (tchks l b left).2 = left - Tp.sizes l
 | [],b,left,h0,h=>by
  refine ⟨fun x hx=>(by cases hx),?_⟩
  simp [tchks,Tp.sizes]
 | x :: l,b,left,h0,h=>by
  unfold tchks at h ⊢
  split at h
  · rename_i he;exact absurd h he
  · rename_i he
    rw [if_neg he]
    have h1:=ok_tchk x b left h0 (by omega)
    have h2:=(tchk_left x b left h0).2 (by omega)
    have h3:=oks_tchk l b _ h2 h
    refine ⟨fun y hy=>?_,?_⟩
    · rcases List.mem_cons.1 hy with rfl | hy
      · exact h1.1
      · exact h3.1 y hy
    · rw [h3.2,h1.2]
      simp only [Tp.sizes]
      omega
end
theorem ok_check {x : Tp} (h : tCheck x = 0) : OkT x ∧ x.size ≤ 60:=by
 have h1:=ok_tchk x [] 60 (by omega) h
 have h2:=(tchk_left x [] 60 (by omega)).2 h
 exact ⟨h1.1,by omega⟩

end Go.Proofs.YtdcplkefmpjppaaGreatDoor
/- global.IsRole, labels, shaped; a symbolic walk. -/
-- TYPESA
namespace Go.Proofs.YtdcplkefmpjppaaGreatDoor.GG
open Go.RowKit Go.Sw

inductive Gt where
 | mk (k : Int) (fr to : ByteArray) (so : Int) (nm : ByteArray) (ls : List ByteArray) (kids : List Gt)
mutual
def Gt.d : Gt → D
 | .mk k fr to so nm ls l=>.agg [.v (.int .i64 k),.v (.string fr),.v (.string to),.v (.int .i64 so),.v (.string nm),.slc (ls.map fun b=>.v (.string b)),.slc (Gt.ds l)]
def Gt.ds : List Gt → List D
 | []=>[]
 | x :: l=>Gt.d x :: Gt.ds l
end
theorem Gt.ds_len : ∀ l : List Gt,(Gt.ds l).length = l.length
 | []=>rfl
 | x :: l=>by simp [Gt.ds,Gt.ds_len l]
theorem Gt.ds_get : ∀ (l : List Gt) (j : Nat) (x : Gt),l[j]? = some x → (Gt.ds l).getD j default = x.d
 | y :: l,0,x,h=>by simp at h;subst h;simp [Gt.ds]
 | y :: l,j + 1,x,h=>by
  have:=Gt.ds_get l j x (by simpa using h)
  simpa [Gt.ds] using this
def isRoleB (s : ByteArray) : Bool:=bif bif (s.size : Int) == 1 then decide ((97 : Int) ≤ ((s.data.toList.getD 0 0).toNat : Nat)) else false then decide ((((s.data.toList.getD 0 0).toNat : Nat) : Int) ≤ 104) else false
set_option maxHeartbeats 4000000 in
set_option maxRecDepth 100000 in
theorem isRole_fn (Γ : Gl) (s : ByteArray) : DFn Tryz.prog Γ 29 [sD s] (.v (.bool (isRoleB s))):=by
 unfold isRoleB
 by_cases h1 : (s.size : Int) = 1
 · have g1 : ((s.size : Int) == 1) = true:=by simpa using h1
   have g2 : (0 : Int) < (s.size : Int):=by omega
   refine fn_of_swp (N:=16) Tryz.func29 rfl (by decide) rfl rfl (by simp) (fun C h0=>?_)
   simp only [argE]
   repeat' (first|(with_reducible apply zz1)|((with_reducible apply zz2);rfl;intro K' hK';simp only [WA,simprocAttr,g1,g2,Int.le_refl,Bool.not_true,Bool.not_false,cond_true,cond_false];(repeat (constructor;focus (clear hK';intros;simp_all;done)));(try (apply hK';clear hK' K')))|((with_reducible apply zz3);rfl;all_goals (intro h;try exact absurd h (by decide))))
   simp only [Kret,retL,retOne,oneV,WA,simprocAttr,g1]
 · have g1 : ((s.size : Int) == 1) = false:=by simpa using h1
   refine fn_of_swp (N:=16) Tryz.func29 rfl (by decide) rfl rfl (by simp) (fun C h0=>?_)
   simp only [argE]
   repeat' (first|(with_reducible apply zz1)|((with_reducible apply zz2);rfl;intro K' hK';simp only [WA,simprocAttr,g1,Bool.not_true,Bool.not_false,cond_true,cond_false,false_implies,Bool.false_eq_true];(repeat (constructor;focus (clear hK';intros;simp_all;done)));(try (apply hK';clear hK' K')))|((with_reducible apply zz3);rfl;all_goals (intro h;try exact absurd h (by decide))))
   simp only [Kret,retL,retOne,oneV,WA,simprocAttr,g1]
end Go.Proofs.YtdcplkefmpjppaaGreatDoor.GG
/- global.labels: types.labels' code once more (printed by mkg2.py out of T2). -/
-- TYPESA
namespace Go.Proofs.YtdcplkefmpjppaaGreatDoor.GG
open Go.RowKit Go.Sw

set_option maxHeartbeats 8000000 in
set_option maxRecDepth 100000 in
theorem labelsG_fn (Γ : Gl) (ls : List ByteArray) : DFn Tryz.prog Γ 134 [.slc (ls.map sD)] (.v (.bool (labelsB ls))):=by
 unfold labelsB
 by_cases h1 : ls.length < 1
 · have g1 : (ls.length : Int) < 1:=by omega
   rw [if_pos h1]
   refine fn_of_swp (N:=37) Tryz.func134 rfl (by decide) rfl rfl (by simp) (fun C h0=>?_)
   simp only [argE]
   repeat' (first|(with_reducible apply zz1)|((with_reducible apply zz2);rfl;intro K' hK';simp only [WA,simprocAttr,List.length_map,g1,Bool.not_true,Bool.not_false,cond_true,cond_false];(repeat (constructor;focus (clear hK';intros;simp_all;done)));(try (apply hK';clear hK' K')))|((with_reducible apply zz3);rfl;all_goals (intro h;try exact absurd h (by decide))))
   simp only [Kret,retL,retOne,oneV,WA,simprocAttr]
 have g1 : ¬ (ls.length : Int) < 1:=by omega
 rw [if_neg h1]
 by_cases h2 : 6 < ls.length
 · have g2 : (6 : Int) < (ls.length : Int):=by omega
   rw [if_pos h2]
   refine fn_of_swp (N:=37) Tryz.func134 rfl (by decide) rfl rfl (by simp) (fun C h0=>?_)
   simp only [argE]
   repeat' (first|(with_reducible apply zz1)|((with_reducible apply zz2);rfl;intro K' hK';simp only [WA,simprocAttr,List.length_map,g1,g2,Bool.not_true,Bool.not_false,cond_true,cond_false];(repeat (constructor;focus (clear hK';intros;simp_all;done)));(try (apply hK';clear hK' K')))|((with_reducible apply zz3);rfl;all_goals (intro h;try exact absurd h (by decide))))
   simp only [Kret,retL,retOne,oneV,WA,simprocAttr]
 have g2 : ¬ (6 : Int) < (ls.length : Int):=by omega
 rw [if_neg h2]
 refine fn_of_swp (N:=37) Tryz.func134 rfl (by decide) rfl rfl (by simp) (fun C h0=>?_)
 simp only [argE]
 repeat' (first|(with_reducible apply zz1)|((with_reducible apply zz2);rfl;intro K' hK';simp only [WA,simprocAttr,List.length_map,g1,g2,Bool.not_true,Bool.not_false,cond_true,cond_false];(repeat (constructor;focus (clear hK';intros;simp_all;done)));(try (apply hK';clear hK' K')))|((with_reducible apply zz3);rfl;all_goals (intro h;try exact absurd h (by decide))))
 refine swp_loop (α := Nat) (fun j=>[(0,.d (.slc (ls.map sD))),(13,.d (.slc (ls.map sD))),(14,.d (iD ls.length)),(15,.d (iD j))]) (fun _=>[])
  (fun j=>j ≤ ls.length ∧ labAll ls = labRest ls j) (fun j=>ls.length - j) 0 ⟨Nat.zero_le _,rfl⟩ (by refine sub_of h0 ?_ ?_ ?_ <;> simp only [US,WA,simprocAttr,List.length_map]) (fun j hj=>?_)
 obtain ⟨hj,hch⟩:=hj
 have hb0 : (0 : Int) ≤ (j : Int):=by omega
 by_cases hlt : j < ls.length
 · obtain ⟨b,hx⟩ : ∃ b,ls[j]? = some b:=⟨ls[j],by simp [hlt]⟩
   have hget : (ls.map sD).getD j default = sD b:=by simp [List.getD,hx]
   have hb1 : (j : Int) < (ls.length : Int):=by omega
   have hw3 : IntKind.i64.wrap ((j : Int) + 1) = ((j + 1 : Nat) : Int):=by rw [wrap_in (by omega) (by omega)];omega
   have hd : ls.drop j = b :: ls.drop (j + 1):=by
    obtain ⟨h1,h2⟩:=List.getElem?_eq_some_iff.1 hx
    rw [List.drop_eq_getElem_cons h1,h2]
   have hgb : ls.getD j ⟨#[]⟩ = b:=by simp [List.getD,hx]
   have hnext : labRest ls (j + 1) = labGo b (ls.drop (j + 1)):=by simp only [labRest,hgb]
   have hn:=isName_fn Γ b
   -- what stands ahead (at the first place: what stands there)
   obtain ⟨q,m,hpos,hw1,hgp,htn⟩ : ∃ (q : ByteArray) (m : Int),(decide ((0 : Int) < (j : Int)) = decide (0 < j)) ∧ IntKind.i64.wrap ((j : Int) - 1) = m ∧ (ls.map sD).getD m.toNat default = sD q ∧ (0 < j → 0 ≤ m ∧ m < (ls.length : Int) ∧ labRest ls j = labGo q (b :: ls.drop (j + 1))):=by
    cases j with
    | zero=>exact ⟨b, -1,rfl,by decide,(by rw [show (-1 : Int).toNat = 0 from rfl];exact hget),fun h=>absurd h (Nat.lt_irrefl _)⟩
    | succ k =>
     obtain ⟨p,hp⟩ : ∃ p,ls[k]? = some p:=⟨ls[k]'(by omega),by simp⟩
     refine ⟨p,k,by rw [decide_eq_decide];omega,by rw [wrap_in (by omega) (by omega)];omega,by simp [List.getD,hp],fun _=>⟨by omega,by omega,?_⟩⟩
     rw [labRest,hd,show ls.getD k ⟨#[]⟩ = p from by simp [List.getD,hp]]
   have h0r : ¬ 0 < j → labRest ls j = labAll (b :: ls.drop (j + 1)):=fun h=>by
    obtain rfl : j = 0:=by omega
    rw [labRest, ← hd,List.drop_zero]
   cases eN : isNameB b with
   | false =>
    rw [eN] at hn
    have hres : labRest ls j = false:=by
     by_cases hz : 0 < j
     · rw [(htn hz).2.2,labGo,eN];rfl
     · rw [h0r hz,labAll,eN];rfl
    repeat' (first|(with_reducible apply zz1)|((with_reducible apply zz2);rfl;intro K' hK';simp only [WA,simprocAttr,Int.toNat_natCast,hget,List.length_map,hb0,hb1];(repeat (constructor;focus (clear hK';intros;simp_all;done)));(try (apply hK';clear hK' K')))|((with_reducible apply zz3);rfl;all_goals (intro h;try exact absurd h (by decide))))
    refine stop_callF rfl (by simp only [WA,simprocAttr]) rfl rfl (hn) ?_
    simp only [WA,simprocAttr,inX,dropS,hw1,hgp,Int.toNat_natCast,List.length_map,Bool.not_true,Bool.not_false,Bool.false_and,Bool.true_and,Bool.and_false,Bool.and_true,cond_true,cond_false]
    (repeat (constructor;focus (clear hK';intros;simp_all;done)))
    (try (apply hK';clear hK' K'))
    repeat' (first|(with_reducible apply zz1)|((with_reducible apply zz2);rfl;intro K' hK';simp only [WA,simprocAttr];(repeat (constructor;focus (clear hK';intros;simp_all;done)));(try (apply hK';clear hK' K')))|((with_reducible apply zz3);rfl;all_goals (intro h;try exact absurd h (by decide))))
    simp only [Kret,retL,retOne,oneV,WA,simprocAttr]
    rw [hch,hres]
   | true =>
    rw [eN] at hn
    by_cases hz : 0 < j
    · obtain ⟨hm0,hm1,hr⟩:=htn hz
      have hp1 : (0 : Int) < (j : Int):=by omega
      cases eL : leB b q with
      | true =>
       have hres : labRest ls j = false:=by rw [hr,labGo,eN,eL];rfl
       unfold leB at eL
       repeat' (first|(with_reducible apply zz1)|((with_reducible apply zz2);rfl;intro K' hK';simp only [WA,simprocAttr,Int.toNat_natCast,hget,List.length_map,hb0,hb1];(repeat (constructor;focus (clear hK';intros;simp_all;done)));(try (apply hK';clear hK' K')))|((with_reducible apply zz3);rfl;all_goals (intro h;try exact absurd h (by decide))))
       refine stop_callF rfl (by simp only [WA,simprocAttr]) rfl rfl (hn) ?_
       simp only [WA,simprocAttr,inX,dropS,hp1,hw1,hgp,hm0,hm1,eL,Int.toNat_natCast,List.length_map,Bool.not_true,Bool.not_false,Bool.false_and,Bool.true_and,Bool.and_false,Bool.and_true,cond_true,cond_false]
       (repeat (constructor;focus (clear hK';intros;simp_all;done)))
       (try (apply hK';clear hK' K'))
       repeat' (first|(with_reducible apply zz1)|((with_reducible apply zz2);rfl;intro K' hK';simp only [WA,simprocAttr];(repeat (constructor;focus (clear hK';intros;simp_all;done)));(try (apply hK';clear hK' K')))|((with_reducible apply zz3);rfl;all_goals (intro h;try exact absurd h (by decide))))
       simp only [Kret,retL,retOne,oneV,WA,simprocAttr]
       rw [hch,hres]
      | false =>
       have hres : labRest ls j = labRest ls (j + 1):=by rw [hr,hnext,labGo,eN,eL];rfl
       unfold leB at eL
       repeat' (first|(with_reducible apply zz1)|((with_reducible apply zz2);rfl;intro K' hK';simp only [WA,simprocAttr,Int.toNat_natCast,hget,List.length_map,hb0,hb1];(repeat (constructor;focus (clear hK';intros;simp_all;done)));(try (apply hK';clear hK' K')))|((with_reducible apply zz3);rfl;all_goals (intro h;try exact absurd h (by decide))))
       refine stop_callF rfl (by simp only [WA,simprocAttr]) rfl rfl (hn) ?_
       simp only [WA,simprocAttr,inX,dropS,hp1,hw1,hgp,hm0,hm1,eL,Int.toNat_natCast,List.length_map,Bool.not_true,Bool.not_false,Bool.false_and,Bool.true_and,Bool.and_false,Bool.and_true,cond_true,cond_false]
       (repeat (constructor;focus (clear hK';intros;simp_all;done)))
       (try (apply hK';clear hK' K'))
       repeat' (first|(with_reducible apply zz1)|((with_reducible apply zz2);rfl;intro K' hK';simp only [WA,simprocAttr,hw3];(repeat (constructor;focus (clear hK';intros;simp_all;done)));(try (apply hK';clear hK' K')))|((with_reducible apply zz3);rfl;all_goals (intro h;try exact absurd h (by decide))))
       refine ⟨j + 1,⟨(by show j + 1 ≤ ls.length;omega),by rw [hch,hres]⟩,(by show ls.length - (j + 1) < ls.length - j;omega),by refine sub_of h0 ?_ ?_ ?_ <;> simp only [US,WA,simprocAttr]⟩
    · have hp1 : ¬ (0 : Int) < (j : Int):=by omega
      have hres : labRest ls j = labRest ls (j + 1):=by rw [h0r hz,hnext,labAll,eN];rfl
      repeat' (first|(with_reducible apply zz1)|((with_reducible apply zz2);rfl;intro K' hK';simp only [WA,simprocAttr,Int.toNat_natCast,hget,List.length_map,hb0,hb1];(repeat (constructor;focus (clear hK';intros;simp_all;done)));(try (apply hK';clear hK' K')))|((with_reducible apply zz3);rfl;all_goals (intro h;try exact absurd h (by decide))))
      refine stop_callF rfl (by simp only [WA,simprocAttr]) rfl rfl (hn) ?_
      simp only [WA,simprocAttr,inX,dropS,hp1,hw1,hgp,Int.toNat_natCast,List.length_map,Bool.not_true,Bool.not_false,Bool.false_and,Bool.true_and,Bool.and_false,Bool.and_true,cond_true,cond_false]
      (repeat (constructor;focus (clear hK';intros;simp_all;done)))
      (try (apply hK';clear hK' K'))
      repeat' (first|(with_reducible apply zz1)|((with_reducible apply zz2);rfl;intro K' hK';simp only [WA,simprocAttr,hw3];(repeat (constructor;focus (clear hK';intros;simp_all;done)));(try (apply hK';clear hK' K')))|((with_reducible apply zz3);rfl;all_goals (intro h;try exact absurd h (by decide))))
      refine ⟨j + 1,⟨(by show j + 1 ≤ ls.length;omega),by rw [hch,hres]⟩,(by show ls.length - (j + 1) < ls.length - j;omega),by refine sub_of h0 ?_ ?_ ?_ <;> simp only [US,WA,simprocAttr]⟩
 · have hb1 : ¬ (j : Int) < (ls.length : Int):=by omega
   have hres : labRest ls j = true:=by
    have hd : ls.drop j = []:=List.drop_of_length_le (by omega)
    cases j with
    | zero=>rw [List.drop_zero] at hd;rw [labRest,hd];rfl
    | succ k=>rw [labRest,hd];rfl
   repeat' (first|(with_reducible apply zz1)|((with_reducible apply zz2);rfl;intro K' hK';simp only [WA,simprocAttr,hb1];(repeat (constructor;focus (clear hK';intros;simp_all;done)));(try (apply hK';clear hK' K')))|((with_reducible apply zz3);rfl;all_goals (intro h;try exact absurd h (by decide))))
   simp only [Kret,retL,retOne,oneV,WA,simprocAttr]
   rw [hch,hres]
end Go.Proofs.YtdcplkefmpjppaaGreatDoor.GG
