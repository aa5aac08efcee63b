/- global.Roles, Rename; a symbolic walk. -/
-- TYPESA
import Derived.Test.YtmohkmfimcnfeaaDoorG5
import Derived.Test.YtmohkmfimcnfeaaDoorG6
import Derived.Test.YtmohkmfimcnfeaaDoorGQ
set_option linter.unusedVariables false
set_option linter.unusedSimpArgs false
namespace Go.Proofs.YtmohkmfimcnfeaaDoor
open Go.RowKit Go.Sw

def rolesF (x : Gt) : List ByteArray:=if gCheck x = 0 then compS (sortS (rolesL x)) else []
theorem rolesF_len (x : Gt) (h : gCheck x = 0) : (rolesF x).length ≤ 120:=by
 have h1:=compS_len (sortS (rolesL x))
 rw [sortS_len] at h1
 have h2:=roles_len x
 have h3:=(okG_check h).2
 unfold rolesF
 rw [if_pos h]
 omega
set_option maxHeartbeats 8000000 in
set_option maxRecDepth 100000 in
theorem Roles_fn (Γ : Gl) (x : Gt) : DFn Tryd.prog Γ 10 [x.d] (.tup [.slc ((rolesF x).map sD),iD (gCheck x)]):=by
 have hc:=GCheck_fn Γ x
 by_cases h : gCheck x = 0
 · have hok:=okG_check h
   have hl:=roles_len x
   have hl2:=compS_len (sortS (rolesL x))
   rw [sortS_len] at hl2
   have hr:=SFn.up 1 (roles_all Γ x.size x hok.1 (Nat.le_refl _) (by omega))
   simp only [SV.rens,SV.ren,renS,Box.ren,Nat.reduceAdd] at hr
   have hco : SFn Tryd.prog Γ 31 [.own 2] [(2,.row 1 ((sortS (rolesL x)).map sD))] (.own 2) [(2,.row 1 ((compS (sortS (rolesL x))).map sD))]:=(compS_fn Γ (sortS (rolesL x)) (by rw [sortS_len];omega)).up 2
   have hcn : DFn Tryd.prog Γ 30 [.slc ((compS (sortS (rolesL x))).map sD)] (.slc ((compS (sortS (rolesL x))).map sD)):=cloneS_d Γ _ (by omega)
   have hF : rolesF x = compS (sortS (rolesL x)):=by unfold rolesF;rw [if_pos h]
   rw [hF,h]
   rw [h] at hc
   generalize compS (sortS (rolesL x)) = L3 at *
   generalize hL2 : sortS (rolesL x) = L2 at *
   generalize rolesL x = L1 at *
   have hl : L1.length ≤ 120:=by omega
   clear hok hl2 h hF
   obtain ⟨k,fr,to,so,nm,ls,l⟩:=x
   simp only [Gt.d] at hc hr ⊢
   refine fn_of_swp (N:=18) Tryd.func10 rfl (by decide) rfl rfl (by simp) (fun C h0=>?_)
   simp only [argE]
   repeat' (first|(with_reducible apply zz1)|((with_reducible apply zz2);rfl;intro K' hK';simp only [WA,simprocAttr];(repeat (constructor;focus (clear hK';intros;simp_all;done)));(try (apply hK';clear hK' K')))|((with_reducible apply zz3);rfl;all_goals (intro h;try exact absurd h (by decide))))
   refine stop_callF rfl (by simp only [WA,simprocAttr]) rfl rfl (hc) ?_
   simp only [WA,simprocAttr,inX,dropS, ]
   (repeat (constructor;focus (clear hK';intros;simp_all;done)))
   (try (apply hK';clear hK' K'))
   repeat' (first|(with_reducible apply zz1)|((with_reducible apply zz2);rfl;intro K' hK';simp only [WA,simprocAttr];(repeat (constructor;focus (clear hK';intros;simp_all;done)));(try (apply hK';clear hK' K')))|((with_reducible apply zz3);rfl;all_goals (intro h;try exact absurd h (by decide))))
   refine stop_cS rfl (by simp only [UA,WA,simprocAttr]) (hr) ?_
   simp only [WA,simprocAttr,UM, ]
   (try (apply hK';clear hK' K'))
   repeat' (first|(with_reducible apply zz1)|((with_reducible apply zz2);rfl;intro K' hK';simp only [WA,simprocAttr];(repeat (constructor;focus (clear hK';intros;simp_all;done)));(try (apply hK';clear hK' K')))|((with_reducible apply zz3);rfl;all_goals (intro h;try exact absurd h (by decide))))
   refine stop_sort L1 rfl rfl rfl (by omega) ?_
   simp only [WA,simprocAttr]
   refine hK' _ _ ?_
   clear hK' K'
   rw [show List.map sD (sortS L1) = List.map sD L2 from by rw [hL2]]
   repeat' (first|(with_reducible apply zz1)|((with_reducible apply zz2);rfl;intro K' hK';simp only [WA,simprocAttr];(repeat (constructor;focus (clear hK';intros;simp_all;done)));(try (apply hK';clear hK' K')))|((with_reducible apply zz3);rfl;all_goals (intro h;try exact absurd h (by decide))))
   refine stop_cS rfl (by simp only [UA,WA,simprocAttr]) (hco) ?_
   simp only [WA,simprocAttr,UM, ]
   (try (apply hK';clear hK' K'))
   refine stop_call h0 rfl (by simp only [WA,simprocAttr]) rfl (by simp only [keepS,Option.isSome_some,WA,simprocAttr]) (hcn) ?_
   simp only [WA,simprocAttr,inX,dropS, ]
   (repeat (constructor;focus (clear hK';intros;simp_all;done)))
   (try (apply hK';clear hK' K'))
   repeat' (first|(with_reducible apply zz1)|((with_reducible apply zz2);rfl;intro K' hK';simp only [WA,simprocAttr];(repeat (constructor;focus (clear hK';intros;simp_all;done)));(try (apply hK';clear hK' K')))|((with_reducible apply zz3);rfl;all_goals (intro h;try exact absurd h (by decide))))
   simp only [Kret,retL,retOne,oneV,WA,simprocAttr]
 · have hF : rolesF x = []:=by unfold rolesF;rw [if_neg h]
   have g0 : (gCheck x != 0) = true:=by simpa using h
   rw [hF]
   generalize gCheck x = E at *
   obtain ⟨k,fr,to,so,nm,ls,l⟩:=x
   simp only [Gt.d] at hc ⊢
   refine fn_of_swp (N:=18) Tryd.func10 rfl (by decide) rfl rfl (by simp) (fun C h0=>?_)
   simp only [argE]
   repeat' (first|(with_reducible apply zz1)|((with_reducible apply zz2);rfl;intro K' hK';simp only [WA,simprocAttr];(repeat (constructor;focus (clear hK';intros;simp_all;done)));(try (apply hK';clear hK' K')))|((with_reducible apply zz3);rfl;all_goals (intro h;try exact absurd h (by decide))))
   refine stop_callF rfl (by simp only [WA,simprocAttr]) rfl rfl (hc) ?_
   simp only [WA,simprocAttr,inX,dropS, ]
   (repeat (constructor;focus (clear hK';intros;simp_all;done)))
   (try (apply hK';clear hK' K'))
   repeat' (first|(with_reducible apply zz1)|((with_reducible apply zz2);rfl;intro K' hK';simp only [WA,simprocAttr,g0];(repeat (constructor;focus (clear hK';intros;simp_all;done)));(try (apply hK';clear hK' K')))|((with_reducible apply zz3);rfl;all_goals (intro h;try exact absurd h (by decide))))
   simp only [Kret,retL,retOne,oneV,WA,simprocAttr,List.map_nil]
def Gt.zero : Gt:=.mk 0 noB noB 0 noB [] []
def renBad (F T : List ByteArray) (j : Nat) : Bool:=if isRoleB (F.getD j noB) = true then (if isRoleB (T.getD j noB) = true then inL (F.take j) (F.getD j noB) else true) else true
def renOk (F T : List ByteArray) : Prop := ∀ j,j < F.length → renBad F T j = false
def renR (x : Gt) (F T : List ByteArray) (p : Prop) [Decidable p] : Gt × Int :=
 if gCheck x ≠ 0 then (Gt.zero,gCheck x) else if F.length ≠ T.length then (Gt.zero,1) else if ¬ p then (Gt.zero,1)
 else if gCheck (ren (nmF F T) x) ≠ 0 then (Gt.zero,4) else (ren (nmF F T) x,0)
set_option maxHeartbeats 16000000 in
set_option maxRecDepth 100000 in
theorem Rename_fn (Γ : Gl) (x : Gt) (F T : List ByteArray) (hF : F.length ≤ 140737488355328) (hT : T.length ≤ 140737488355328) [Decidable (renOk F T)] : DFn Tryd.prog Γ 13 [x.d,.slc (F.map sD),.slc (T.map sD)] (.tup [(renR x F T (renOk F T)).1.d,iD (renR x F T (renOk F T)).2]):=by
 have hc:=GCheck_fn Γ x
 obtain ⟨R,hR⟩ : ∃ R,renR x F T (renOk F T) = R:=⟨_,rfl⟩
 rw [hR]
 by_cases h : gCheck x = 0
 · unfold renR at hR
   rw [if_neg (by simpa using h)] at hR
   have hok:=(okG_check h).1
   rw [h] at hc
   by_cases hl : F.length = T.length
   · rw [if_neg (by simpa using hl)] at hR
     have g1 : ((F.length : Int) != (T.length : Int)) = false:=by rw [hl];simp
     have hre:=ren_all Γ F T hl hF hok
     have hc2:=GCheck_fn Γ (ren (nmF F T) x)
     generalize ren (nmF F T) x = y at *
     obtain ⟨X,hX⟩ : ∃ X,x = X:=⟨x,rfl⟩
     obtain ⟨k,fr,to,so,nm,ls,l⟩:=x
     simp only [Gt.d] at hc hre ⊢
     refine fn_of_swp (N:=63) Tryd.func13 rfl (by decide) rfl rfl (by simp) (fun C h0=>?_)
     simp only [argE]
     repeat' (first|(with_reducible apply zz1)|((with_reducible apply zz2);rfl;intro K' hK';simp only [WA,simprocAttr];(repeat (constructor;focus (clear hK';intros;simp_all;done)));(try (apply hK';clear hK' K')))|((with_reducible apply zz3);rfl;all_goals (intro h;try exact absurd h (by decide))))
     refine stop_callF rfl (by simp only [WA,simprocAttr]) rfl rfl (hc) ?_
     simp only [WA,simprocAttr,inX,dropS, ]
     (repeat (constructor;focus (clear hK';intros;simp_all;done)))
     (try (apply hK';clear hK' K'))
     repeat' (first|(with_reducible apply zz1)|((with_reducible apply zz2);rfl;intro K' hK';simp only [WA,simprocAttr,g1,List.length_map];(repeat (constructor;focus (clear hK';intros;simp_all;done)));(try (apply hK';clear hK' K')))|((with_reducible apply zz3);rfl;all_goals (intro h;try exact absurd h (by decide))))
     refine swp_loop (α := Nat) (fun j=>[(1,.d (.slc (F.map sD))),(2,.d (.slc (T.map sD))),(3,.ref 0 0),(6,.ref 1 0),(24,.d (iD F.length)),(25,.d (iD j))])
      (fun j=>[(0,.cells [.d (iD k),.d (sD fr),.d (sD to),.d (iD so),.d (sD nm),.d (.slc (ls.map sD)),.d (.slc (Gt.ds l))]),(1,.cells [.d (iD 0),.d (sD ⟨#[]⟩),.d (sD ⟨#[]⟩),.d (iD 0),.d (sD ⟨#[]⟩),.nil,.nil])])
      (fun j=>j ≤ F.length ∧ ∀ i,i < j → renBad F T i = false) (fun j=>F.length - j) 0 ⟨Nat.zero_le _,fun i hi=>by omega⟩ (by refine sub_of h0 ?_ ?_ ?_ <;> simp only [US,WA,simprocAttr,List.length_map]) (fun j hj=>?_)
     obtain ⟨hj,hb⟩:=hj
     have hb0 : (0 : Int) ≤ (j : Int):=by omega
     by_cases hlt : j < F.length
     · obtain ⟨f,hf⟩ : ∃ f,F[j]? = some f:=⟨F[j],by simp [hlt]⟩
       obtain ⟨t,ht⟩ : ∃ t,T[j]? = some t:=⟨T[j]'(by omega),by simp⟩
       have hgf : (F.map sD).getD j default = sD f:=by simp [List.getD,hf]
       have hgt : (T.map sD).getD j default = sD t:=by simp [List.getD,ht]
       have hb1 : (j : Int) < (F.length : Int):=by omega
       have hb2 : (j : Int) < (T.length : Int):=by omega
       have hb3 : (j : Int) ≤ (F.length : Int):=by omega
       have hw3 : IntKind.i64.wrap ((j : Int) + 1) = ((j + 1 : Nat) : Int):=by rw [wrap_in (by omega) (by omega)];omega
       have hr1:=isRole_fn Γ f
       have hr2:=isRole_fn Γ t
       have hct:=containsS_fn Γ (F.take j) f (by rw [List.length_take];omega)
       have htk : (F.map sD).take j = (F.take j).map sD:=by rw [List.map_take]
       have hfit : ∀ d ∈ F.map sD,d.cells.length = 1:=fun d hd=>by
        obtain ⟨z, -,rfl⟩:=List.mem_map.1 hd;rfl
       have hbad : renBad F T j = if isRoleB f = true then (if isRoleB t = true then inL (F.take j) f else true) else true:=by
        unfold renBad
        rw [show F.getD j noB = f from by simp [List.getD,hf],show T.getD j noB = t from by simp [List.getD,ht]]
       have hct : DFn Tryd.prog Γ 14 [.slc ((F.take j).map sD),sD f] (.v (.bool (inL (F.take j) f))):=hct
       generalize inL (F.take j) f = b3 at *
       generalize isRoleB f = b1 at *
       generalize isRoleB t = b2 at *
       have bad : renBad F T j = true → R = (Gt.zero,1):=fun hq=>by
        rw [if_pos (fun hp=>by rw [hp j hlt] at hq;cases hq)] at hR
        exact hR.symm
       repeat' (first|(with_reducible apply zz1)|((with_reducible apply zz2);rfl;intro K' hK';simp only [WA,simprocAttr,hb1];(repeat (constructor;focus (clear hK';intros;simp_all;done)));(try (apply hK';clear hK' K')))|((with_reducible apply zz3);rfl;all_goals (intro h;try exact absurd h (by decide))))
       cases b1 with
       | false =>
        obtain rfl:=bad hbad
        (with_reducible refine swp_draw ?_ ?_ ?_ ( [(4,.v (.bool false)),(11,.v (.bool b2)),(22,.v (.bool b3))]) (fun K' hK'=>?_)
         · kernel_rfl
         · rfl
         · rfl
         simp only [WA,simprocAttr,UG,Int.toNat_natCast,List.length_map,hgf,hgt,hb0,hb1,hb2,hb3,htk,hfit,hr1,hr2,hct,Int.le_refl,Bool.not_true,Bool.not_false,cond_true,cond_false,List.drop_zero,Option.toList_toArray ]
         (try (apply hK';clear hK' K')))
        (repeat (constructor;focus (clear hK';intros;first | trivial | assumption | exact hfit _ (by assumption) | omega | (simp_all;done))))
        refine hK' _ _ ?_
        clear hK' K'
        repeat' (first|(with_reducible apply zz1)|((with_reducible apply zz2);rfl;intro K' hK';simp only [WA,simprocAttr];(repeat (constructor;focus (clear hK';intros;simp_all;done)));(try (apply hK';clear hK' K')))|((with_reducible apply zz3);rfl;all_goals (intro h;try exact absurd h (by decide))))
        simp only [Kret,retL,retOne,oneV,WA,simprocAttr,Gt.zero,Gt.d,Gt.ds,List.map_nil]
       | true =>
        cases b2 with
        | false =>
         obtain rfl:=bad hbad
         (with_reducible refine swp_draw ?_ ?_ ?_ ( [(4,.v (.bool true)),(11,.v (.bool false)),(22,.v (.bool b3))]) (fun K' hK'=>?_)
          · kernel_rfl
          · rfl
          · rfl
          simp only [WA,simprocAttr,UG,Int.toNat_natCast,List.length_map,hgf,hgt,hb0,hb1,hb2,hb3,htk,hfit,hr1,hr2,hct,Int.le_refl,Bool.not_true,Bool.not_false,cond_true,cond_false,List.drop_zero,Option.toList_toArray ]
          (try (apply hK';clear hK' K')))
         (repeat (constructor;focus (clear hK';intros;first | trivial | assumption | exact hfit _ (by assumption) | omega | (simp_all;done))))
         refine hK' _ _ ?_
         clear hK' K'
         repeat' (first|(with_reducible apply zz1)|((with_reducible apply zz2);rfl;intro K' hK';simp only [WA,simprocAttr];(repeat (constructor;focus (clear hK';intros;simp_all;done)));(try (apply hK';clear hK' K')))|((with_reducible apply zz3);rfl;all_goals (intro h;try exact absurd h (by decide))))
         simp only [Kret,retL,retOne,oneV,WA,simprocAttr,Gt.zero,Gt.d,Gt.ds,List.map_nil]
        | true =>
         cases b3 with
         | true =>
          obtain rfl:=bad hbad
          (with_reducible refine swp_draw ?_ ?_ ?_ ( [(4,.v (.bool true)),(11,.v (.bool true)),(22,.v (.bool true))]) (fun K' hK'=>?_)
           · kernel_rfl
           · rfl
           · rfl
           simp only [WA,simprocAttr,UG,Int.toNat_natCast,List.length_map,hgf,hgt,hb0,hb1,hb2,hb3,htk,hfit,hr1,hr2,hct,Int.le_refl,Bool.not_true,Bool.not_false,cond_true,cond_false,List.drop_zero,Option.toList_toArray ]
           (try (apply hK';clear hK' K')))
          (repeat (constructor;focus (clear hK';intros;first | trivial | assumption | exact hfit _ (by assumption) | omega | (simp_all;done))))
          refine hK' _ _ ?_
          clear hK' K'
          repeat' (first|(with_reducible apply zz1)|((with_reducible apply zz2);rfl;intro K' hK';simp only [WA,simprocAttr];(repeat (constructor;focus (clear hK';intros;simp_all;done)));(try (apply hK';clear hK' K')))|((with_reducible apply zz3);rfl;all_goals (intro h;try exact absurd h (by decide))))
          simp only [Kret,retL,retOne,oneV,WA,simprocAttr,Gt.zero,Gt.d,Gt.ds,List.map_nil]
         | false =>
          (with_reducible refine swp_draw ?_ ?_ ?_ ( [(4,.v (.bool true)),(11,.v (.bool true)),(22,.v (.bool false))]) (fun K' hK'=>?_)
           · kernel_rfl
           · rfl
           · rfl
           simp only [WA,simprocAttr,UG,Int.toNat_natCast,List.length_map,hgf,hgt,hb0,hb1,hb2,hb3,htk,hfit,hr1,hr2,hct,Int.le_refl,Bool.not_true,Bool.not_false,cond_true,cond_false,List.drop_zero,Option.toList_toArray ]
           (try (apply hK';clear hK' K')))
          (repeat (constructor;focus (clear hK';intros;first | trivial | assumption | exact hfit _ (by assumption) | omega | (simp_all;done))))
          refine hK' _ _ ?_
          clear hK' K'
          repeat' (first|(with_reducible apply zz1)|((with_reducible apply zz2);rfl;intro K' hK';simp only [WA,simprocAttr,hw3];(repeat (constructor;focus (clear hK';intros;simp_all;done)));(try (apply hK';clear hK' K')))|((with_reducible apply zz3);rfl;all_goals (intro h;try exact absurd h (by decide))))
          refine ⟨j + 1,⟨(by show j + 1 ≤ F.length;omega),fun i hi=>?_⟩,(by show F.length - (j + 1) < F.length - j;omega),by refine sub_of h0 ?_ ?_ ?_ <;> simp only [US,WA,simprocAttr]⟩
          by_cases hij : i = j
          · subst hij;exact hbad
          · exact hb i (by omega)
     · have hb1 : ¬ (j : Int) < (F.length : Int):=by omega
       have hp : renOk F T:=fun i hi=>hb i (by omega)
       rw [if_neg (not_not_intro hp)] at hR
       by_cases hz : gCheck y = 0
       · rw [if_neg (by simpa using hz)] at hR
         subst hR
         rw [hz] at hc2
         obtain ⟨yk,yfr,yto,yso,ynm,yls,yl⟩:=y
         simp only [Gt.d] at hre hc2 ⊢
         repeat' (first|(with_reducible apply zz1)|((with_reducible apply zz2);rfl;intro K' hK';simp only [WA,simprocAttr,hb1];(repeat (constructor;focus (clear hK';intros;simp_all;done)));(try (apply hK';clear hK' K')))|((with_reducible apply zz3);rfl;all_goals (intro h;try exact absurd h (by decide))))
         refine stop_call h0 rfl (by simp only [WA,simprocAttr]) rfl (by simp only [keepS,Option.isSome_some,WA,simprocAttr]) (hre) ?_
         simp only [WA,simprocAttr,inX,dropS, ]
         (repeat (constructor;focus (clear hK';intros;simp_all;done)))
         (try (apply hK';clear hK' K'))
         repeat' (first|(with_reducible apply zz1)|((with_reducible apply zz2);rfl;intro K' hK';simp only [WA,simprocAttr];(repeat (constructor;focus (clear hK';intros;simp_all;done)));(try (apply hK';clear hK' K')))|((with_reducible apply zz3);rfl;all_goals (intro h;try exact absurd h (by decide))))
         refine stop_callF rfl (by simp only [WA,simprocAttr]) rfl rfl (hc2) ?_
         simp only [WA,simprocAttr,inX,dropS, ]
         (repeat (constructor;focus (clear hK';intros;simp_all;done)))
         (try (apply hK';clear hK' K'))
         repeat' (first|(with_reducible apply zz1)|((with_reducible apply zz2);rfl;intro K' hK';simp only [WA,simprocAttr];(repeat (constructor;focus (clear hK';intros;simp_all;done)));(try (apply hK';clear hK' K')))|((with_reducible apply zz3);rfl;all_goals (intro h;try exact absurd h (by decide))))
         simp only [Kret,retL,retOne,oneV,WA,simprocAttr]
       · rw [if_pos (by simpa using hz)] at hR
         subst hR
         have g0 : (gCheck y != 0) = true:=by simpa using hz
         generalize gCheck y = E at *
         obtain ⟨yk,yfr,yto,yso,ynm,yls,yl⟩:=y
         simp only [Gt.d] at hre hc2 ⊢
         repeat' (first|(with_reducible apply zz1)|((with_reducible apply zz2);rfl;intro K' hK';simp only [WA,simprocAttr,hb1];(repeat (constructor;focus (clear hK';intros;simp_all;done)));(try (apply hK';clear hK' K')))|((with_reducible apply zz3);rfl;all_goals (intro h;try exact absurd h (by decide))))
         refine stop_call h0 rfl (by simp only [WA,simprocAttr]) rfl (by simp only [keepS,Option.isSome_some,WA,simprocAttr]) (hre) ?_
         simp only [WA,simprocAttr,inX,dropS, ]
         (repeat (constructor;focus (clear hK';intros;simp_all;done)))
         (try (apply hK';clear hK' K'))
         repeat' (first|(with_reducible apply zz1)|((with_reducible apply zz2);rfl;intro K' hK';simp only [WA,simprocAttr];(repeat (constructor;focus (clear hK';intros;simp_all;done)));(try (apply hK';clear hK' K')))|((with_reducible apply zz3);rfl;all_goals (intro h;try exact absurd h (by decide))))
         refine stop_callF rfl (by simp only [WA,simprocAttr]) rfl rfl (hc2) ?_
         simp only [WA,simprocAttr,inX,dropS,g0]
         (repeat (constructor;focus (clear hK';intros;simp_all;done)))
         (try (apply hK';clear hK' K'))
         repeat' (first|(with_reducible apply zz1)|((with_reducible apply zz2);rfl;intro K' hK';simp only [WA,simprocAttr];(repeat (constructor;focus (clear hK';intros;simp_all;done)));(try (apply hK';clear hK' K')))|((with_reducible apply zz3);rfl;all_goals (intro h;try exact absurd h (by decide))))
         simp only [Kret,retL,retOne,oneV,WA,simprocAttr,Gt.zero,Gt.d,Gt.ds,List.map_nil]
   · rw [if_pos (by simpa using hl)] at hR
     subst hR
     have g1 : ((F.length : Int) != (T.length : Int)) = true:=by simpa using (by omega : (F.length : Int) ≠ (T.length : Int))
     obtain ⟨k,fr,to,so,nm,ls,l⟩:=x
     simp only [Gt.d] at hc ⊢
     refine fn_of_swp (N:=63) Tryd.func13 rfl (by decide) rfl rfl (by simp) (fun C h0=>?_)
     simp only [argE]
     repeat' (first|(with_reducible apply zz1)|((with_reducible apply zz2);rfl;intro K' hK';simp only [WA,simprocAttr];(repeat (constructor;focus (clear hK';intros;simp_all;done)));(try (apply hK';clear hK' K')))|((with_reducible apply zz3);rfl;all_goals (intro h;try exact absurd h (by decide))))
     refine stop_callF rfl (by simp only [WA,simprocAttr]) rfl rfl (hc) ?_
     simp only [WA,simprocAttr,inX,dropS, ]
     (repeat (constructor;focus (clear hK';intros;simp_all;done)))
     (try (apply hK';clear hK' K'))
     repeat' (first|(with_reducible apply zz1)|((with_reducible apply zz2);rfl;intro K' hK';simp only [WA,simprocAttr,g1,List.length_map];(repeat (constructor;focus (clear hK';intros;simp_all;done)));(try (apply hK';clear hK' K')))|((with_reducible apply zz3);rfl;all_goals (intro h;try exact absurd h (by decide))))
     simp only [Kret,retL,retOne,oneV,WA,simprocAttr,Gt.zero,Gt.d,Gt.ds,List.map_nil]
 · have g0 : (gCheck x != 0) = true:=by simpa using h
   unfold renR at hR
   rw [if_pos (by simpa using h)] at hR
   subst hR
   generalize gCheck x = E at *
   obtain ⟨k,fr,to,so,nm,ls,l⟩:=x
   simp only [Gt.d] at hc ⊢
   refine fn_of_swp (N:=63) Tryd.func13 rfl (by decide) rfl rfl (by simp) (fun C h0=>?_)
   simp only [argE]
   repeat' (first|(with_reducible apply zz1)|((with_reducible apply zz2);rfl;intro K' hK';simp only [WA,simprocAttr];(repeat (constructor;focus (clear hK';intros;simp_all;done)));(try (apply hK';clear hK' K')))|((with_reducible apply zz3);rfl;all_goals (intro h;try exact absurd h (by decide))))
   refine stop_callF rfl (by simp only [WA,simprocAttr]) rfl rfl (hc) ?_
   simp only [WA,simprocAttr,inX,dropS, ]
   (repeat (constructor;focus (clear hK';intros;simp_all;done)))
   (try (apply hK';clear hK' K'))
   repeat' (first|(with_reducible apply zz1)|((with_reducible apply zz2);rfl;intro K' hK';simp only [WA,simprocAttr,g0];(repeat (constructor;focus (clear hK';intros;simp_all;done)));(try (apply hK';clear hK' K')))|((with_reducible apply zz3);rfl;all_goals (intro h;try exact absurd h (by decide))))
   simp only [Kret,retL,retOne,oneV,WA,simprocAttr,Gt.zero,Gt.d,Gt.ds,List.map_nil]
end Go.Proofs.YtmohkmfimcnfeaaDoor
