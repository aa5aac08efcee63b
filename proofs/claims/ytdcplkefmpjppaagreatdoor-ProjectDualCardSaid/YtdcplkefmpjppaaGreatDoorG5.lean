/- global.roles; a symbolic walk. -/
import Derived.Test.YtdcplkefmpjppaaGreatDoorU7
import Derived.Test.YtdcplkefmpjppaaGreatDoorG6
import Derived.Test.YtdcplkefmpjppaaGreatDoorGS
-- TYPESA
set_option linter.unusedVariables false
set_option linter.unusedSimpArgs false
namespace Go.Proofs.YtdcplkefmpjppaaGreatDoor.GG
open Go.RowKit Go.Sw
open Go.Sw renaming swp_seq → zw0

theorem Gt.sizes_mem : ∀ {l : List Gt} {j : Nat} {x : Gt},l[j]? = some x → Gt.sizes (l.take j) + x.size ≤ Gt.sizes l
 | y :: l,0,x,h=>by simp at h;subst h;simp [Gt.sizes]
 | y :: l,j + 1,x,h=>by
  have:=Gt.sizes_mem (l:=l) (j:=j) (x:=x) (by simpa using h)
  simp only [List.take_succ_cons,Gt.sizes]
  omega
theorem rolesLs_snoc {l : List Gt} {j : Nat} {x : Gt} (h : l[j]? = some x) : rolesLs (l.take (j + 1)) = rolesLs (l.take j) ++ rolesL x:=by
 rw [List.take_add_one,h,rolesLs_flat,rolesLs_flat]
 simp
def RolesS (Γ : Gl) (x : Gt) : Prop:=SFn Tryz.prog Γ 34 [.d x.d] [] (.own 1) [(1,.row 1 ((rolesL x).map sD))]

set_option maxHeartbeats 16000000 in
set_option maxRecDepth 100000 in
theorem roles_step (Γ : Gl) (k : Int) (fr to : ByteArray) (so : Int) (nm : ByteArray) (ls : List ByteArray) (l : List Gt) (hz : Gt.sizes l ≤ 1000) (hlen : l.length ≤ 1000) (ih : ∀ x ∈ l,RolesS Γ x) : RolesS Γ (.mk k fr to so nm ls l):=by
 have hll:=Gt.ds_len l
 unfold RolesS
 simp only [Gt.d]
 refine sfn_of_swp (N:=29) Tryz.func34 rfl (by decide) rfl rfl (by simp) (fun C h0=>?_)
 simp only [argS]
 refine zw0 ?_
 (with_reducible refine swp_region ?_ (fun K' hK'=>?_)
  · rfl
  simp only [WA,simprocAttr]
  (repeat (constructor;focus (clear hK';intros;simp_all;done))))
 refine hK' _ _ ?_
 clear hK' K'
 refine kseq_n ?_
 refine zw0 ?_
 (with_reducible refine swp_region ?_ (fun K' hK'=>?_)
  · rfl
  simp only [WA,simprocAttr]
  (repeat (constructor;focus (clear hK';intros;simp_all;done))))
 refine hK' _ _ ?_
 clear hK' K'
 refine kseq_n ?_
 refine swp_nil 3 1 1 rfl rfl (by decide) ?_
 simp only [WA,simprocAttr]
 refine zw0 ?_
 obtain ⟨r0,hr0⟩ : ∃ r0,(if emptyB fr = true then [] else [fr,to]) = r0:=⟨_,rfl⟩
 have hr2 : r0.length ≤ 2:=by rw [← hr0];split <;> simp
 refine swp_midK [(1,.ref 0 0),(3,.own 1)] [(0,.cells [.d (iD k),.d (sD fr),.d (sD to),.d (iD so),.d (sD nm),.d (.slc (ls.map sD)),.d (.slc (Gt.ds l))]),(1,.row 1 (r0.map sD))] ?_ ?_
 · cases he : emptyB fr with
   | true =>
    rw [he,if_pos rfl] at hr0
    subst hr0
    unfold emptyB at he
    repeat' (first|(with_reducible apply zz1)|((with_reducible apply zz2);rfl;intro K' hK';simp only [WA,simprocAttr,he,Bool.not_true,Bool.not_false,cond_true,cond_false];(repeat (constructor;focus (clear hK';intros;simp_all;done)));(try (apply hK';clear hK' K')))|((with_reducible apply zz3);rfl;all_goals (intro h;try exact absurd h (by decide))))
    refine ⟨rfl,?_⟩
    refine sub_of h0 ?_ ?_ ?_ <;> simp only [US,WA,simprocAttr]
   | false =>
    rw [he,if_neg (by decide)] at hr0
    subst hr0
    unfold emptyB at he
    have m1 : 2 ≤ maxLen:=by unfold maxLen;omega
    repeat' (first|(with_reducible apply zz1)|((with_reducible apply zz2);rfl;intro K' hK';simp only [WA,simprocAttr,he,m1,Bool.not_true,Bool.not_false,cond_true,cond_false];(repeat (constructor;focus (clear hK';intros;simp_all;done)));(try (apply hK';clear hK' K')))|((with_reducible apply zz3);rfl;all_goals (intro h;try exact absurd h (by decide))))
    refine ⟨rfl,?_⟩
    refine sub_of h0 ?_ ?_ ?_ <;> simp only [US,WA,simprocAttr]
 have hall : rolesL (.mk k fr to so nm ls l) = r0 ++ rolesLs l:=by rw [rolesL,hr0]
 rw [hall]
 repeat' (first|(with_reducible apply zz1)|((with_reducible apply zz2);rfl;intro K' hK';simp only [WA,simprocAttr,hll];(repeat (constructor;focus (clear hK';intros;simp_all;done)));(try (apply hK';clear hK' K')))|((with_reducible apply zz3);rfl;all_goals (intro h;try exact absurd h (by decide))))
 refine swp_loop (α := Nat) (fun j=>[(3,.own 1),(17,.d (.slc (Gt.ds l))),(18,.d (iD l.length)),(19,.d (iD j))]) (fun j=>[(1,.row 1 ((r0 ++ rolesLs (l.take j)).map sD))])
  (fun j=>j ≤ l.length) (fun j=>l.length - j) 0 (Nat.zero_le _) (by simp only [List.take_zero,rolesLs,List.append_nil];refine sub_of h0 ?_ ?_ ?_ <;> simp only [US,WA,simprocAttr,hll]) (fun j hj=>?_)
 have hj : j ≤ l.length:=hj
 have hb0 : (0 : Int) ≤ (j : Int):=by omega
 by_cases hlt : j < l.length
 · obtain ⟨x,hx⟩ : ∃ x,l[j]? = some x:=⟨l[j],by simp [hlt]⟩
   have hcall:=SFn.up 2 (ih x (List.mem_of_getElem? hx))
   have hget:=Gt.ds_get l j x hx
   have hb1 : (j : Int) < (l.length : Int):=by omega
   have hw3 : IntKind.i64.wrap ((j : Int) + 1) = ((j + 1 : Nat) : Int):=by rw [wrap_in (by omega) (by omega)];omega
   have hsn:=rolesLs_snoc hx
   have hsz:=Gt.sizes_mem hx
   have hq1:=roless_len (l.take j)
   have hq2:=roles_len x
   generalize rolesLs (l.take j) = A at *
   generalize rolesL x = B at *
   obtain ⟨k',fr',to',so',nm',ls',l'⟩:=x
   simp only [Gt.d] at hget hcall
   simp only [SV.rens,SV.ren,renS,Box.ren,Nat.reduceAdd] at hcall
   cases B with
   | nil =>
    repeat' (first|(with_reducible apply zz1)|((with_reducible apply zz2);rfl;intro K' hK';simp only [WA,simprocAttr,Int.toNat_natCast,hget,hll,hb0,hb1];(repeat (constructor;focus (clear hK';intros;simp_all;done)));(try (apply hK';clear hK' K')))|((with_reducible apply zz3);rfl;all_goals (intro h;try exact absurd h (by decide))))
    refine stop_cS rfl (by simp only [UA,WA,simprocAttr]) (hcall) ?_
    simp only [WA,simprocAttr,UM, ]
    (try (apply hK';clear hK' K'))
    repeat' (first|(with_reducible apply zz1)|((with_reducible apply zz2);rfl;intro K' hK';simp only [WA,simprocAttr,hw3];(repeat (constructor;focus (clear hK';intros;simp_all;done)));(try (apply hK';clear hK' K')))|((with_reducible apply zz3);rfl;all_goals (intro h;try exact absurd h (by decide))))
    refine ⟨j + 1,(by show j + 1 ≤ l.length;omega),(by show l.length - (j + 1) < l.length - j;omega),by simp only [hsn,List.append_nil];refine sub_of h0 ?_ ?_ ?_ <;> simp only [US,WA,simprocAttr]⟩
   | cons b B =>
    have m1 : (r0.length + A.length + (B.length + 1)) * 16 ≤ 140737488355328:=by simp only [List.length_cons] at hq2;omega
    have m2 : r0.length + A.length + (B.length + 1) ≤ maxLen:=by unfold maxLen;simp only [List.length_cons] at hq2;omega
    repeat' (first|(with_reducible apply zz1)|((with_reducible apply zz2);rfl;intro K' hK';simp only [WA,simprocAttr,Int.toNat_natCast,hget,hll,hb0,hb1];(repeat (constructor;focus (clear hK';intros;simp_all;done)));(try (apply hK';clear hK' K')))|((with_reducible apply zz3);rfl;all_goals (intro h;try exact absurd h (by decide))))
    refine stop_cS rfl (by simp only [UA,WA,simprocAttr]) (hcall ) ?_
    simp only [WA,simprocAttr,UM,  List.length_map,List.length_append,m1,m2]
    (try (apply hK';clear hK' K'))
    repeat' (first|(with_reducible apply zz1)|((with_reducible apply zz2);rfl;intro K' hK';simp only [WA,simprocAttr,hw3];(repeat (constructor;focus (clear hK';intros;simp_all;done)));(try (apply hK';clear hK' K')))|((with_reducible apply zz3);rfl;all_goals (intro h;try exact absurd h (by decide))))
    refine ⟨j + 1,(by show j + 1 ≤ l.length;omega),(by show l.length - (j + 1) < l.length - j;omega),by simp only [hsn, ← List.append_assoc,List.map_append];refine sub_of h0 ?_ ?_ ?_ <;> simp only [US,WA,simprocAttr,List.map_cons,List.map_append]⟩
 · have hb1 : ¬ (j : Int) < (l.length : Int):=by omega
   rw [List.take_of_length_le (by omega)]
   repeat' (first|(with_reducible apply zz1)|((with_reducible apply zz2);rfl;intro K' hK';simp only [WA,simprocAttr,hb1];(repeat (constructor;focus (clear hK';intros;simp_all;done)));(try (apply hK';clear hK' K')))|((with_reducible apply zz3);rfl;all_goals (intro h;try exact absurd h (by decide))))
   simp only [KretS,retL,retOne,oneV,US,WA,simprocAttr,h0]
theorem okG_kids {k : Int} {fr to : ByteArray} {so : Int} {nm : ByteArray} {ls : List ByteArray} {l : List Gt} (h : OkG (.mk k fr to so nm ls l)) : l.length ≤ 6 ∧ ∀ x ∈ l,OkG x:=by
 cases h with
 | nil=>simp
 | send _ _ _ x _ _ _ hx=>simpa using hx
 | pick _ _ _ _ _ hl hn hx=>exact ⟨by have:=labels_len hl;omega,hx⟩
 | bind _ x _ hx=>simpa using hx
 | var=>simp
theorem roles_all (Γ : Gl) : ∀ (N : Nat) (x : Gt),OkG x → x.size ≤ N → N ≤ 1000 → RolesS Γ x
 | 0,x,_,h,_=>by have:=x.size_pos;omega
 | N + 1,.mk k fr to so nm ls l,ho,h,hN=>by
  have h1 : Gt.sizes l ≤ N:=by simp only [Gt.size] at h;omega
  obtain ⟨h3,h2⟩:=okG_kids ho
  exact roles_step Γ k fr to so nm ls l (by omega) (by omega) fun x hx=>roles_all Γ N x (h2 x hx) (by have:=Gt.size_mem hx;omega) (by omega)
end Go.Proofs.YtdcplkefmpjppaaGreatDoor.GG
/- global.Roles, Rename; a symbolic walk. -/
-- TYPESA
namespace Go.Proofs.YtdcplkefmpjppaaGreatDoor.GG
open Go.RowKit Go.Sw

def rolesF (x : Gt) : List ByteArray:=if gCheck x = 0 then compS (sortS (rolesL x)) else []
set_option maxHeartbeats 8000000 in
set_option maxRecDepth 100000 in
theorem Roles_fn (Γ : Gl) (x : Gt) : DFn Tryz.prog Γ 10 [x.d] (.tup [.slc ((rolesF x).map sD),iD (gCheck x)]):=by
 have hc:=GCheck_fn Γ x
 by_cases h : gCheck x = 0
 · have hok:=okG_check h
   have hl:=roles_len x
   have hl2:=compS_len (sortS (rolesL x))
   rw [sortS_len] at hl2
   have hr:=SFn.up 1 (roles_all Γ x.size x hok.1 (Nat.le_refl _) (by omega))
   simp only [SV.rens,SV.ren,renS,Box.ren,Nat.reduceAdd] at hr
   have hco : SFn Tryz.prog Γ 37 [.own 2] [(2,.row 1 ((sortS (rolesL x)).map sD))] (.own 2) [(2,.row 1 ((compS (sortS (rolesL x))).map sD))]:=(compS_fn Γ (sortS (rolesL x)) (by rw [sortS_len];omega)).up 2
   have hcn : DFn Tryz.prog Γ 36 [.slc ((compS (sortS (rolesL x))).map sD)] (.slc ((compS (sortS (rolesL x))).map sD)):=cloneS_d Γ _ (by omega)
   have hF : rolesF x = compS (sortS (rolesL x)):=by unfold rolesF;rw [if_pos h]
   rw [hF,h]
   rw [h] at hc
   generalize compS (sortS (rolesL x)) = L3 at *
   generalize hL2 : sortS (rolesL x) = L2 at *
   generalize rolesL x = L1 at *
   have hl : L1.length ≤ 120:=by omega
   clear hok hl2 h hF
   obtain ⟨k,fr,to,so,nm,ls,l⟩:=x
   simp only [Gt.d] at hc hr ⊢
   refine fn_of_swp (N:=18) Tryz.func10 rfl (by decide) rfl rfl (by simp) (fun C h0=>?_)
   simp only [argE]
   repeat' (first|(with_reducible apply zz1)|((with_reducible apply zz2);rfl;intro K' hK';simp only [WA,simprocAttr];(repeat (constructor;focus (clear hK';intros;simp_all;done)));(try (apply hK';clear hK' K')))|((with_reducible apply zz3);rfl;all_goals (intro h;try exact absurd h (by decide))))
   refine stop_callF rfl (by simp only [WA,simprocAttr]) rfl rfl (hc) ?_
   simp only [WA,simprocAttr,inX,dropS, ]
   (repeat (constructor;focus (clear hK';intros;simp_all;done)))
   (try (apply hK';clear hK' K'))
   repeat' (first|(with_reducible apply zz1)|((with_reducible apply zz2);rfl;intro K' hK';simp only [WA,simprocAttr];(repeat (constructor;focus (clear hK';intros;simp_all;done)));(try (apply hK';clear hK' K')))|((with_reducible apply zz3);rfl;all_goals (intro h;try exact absurd h (by decide))))
   refine stop_cS rfl (by simp only [UA,WA,simprocAttr]) (hr) ?_
   simp only [WA,simprocAttr,UM, ]
   (try (apply hK';clear hK' K'))
   repeat' (first|(with_reducible apply zz1)|((with_reducible apply zz2);rfl;intro K' hK';simp only [WA,simprocAttr];(repeat (constructor;focus (clear hK';intros;simp_all;done)));(try (apply hK';clear hK' K')))|((with_reducible apply zz3);rfl;all_goals (intro h;try exact absurd h (by decide))))
   refine stop_sort L1 rfl rfl rfl (by omega) ?_
   simp only [WA,simprocAttr]
   refine hK' _ _ ?_
   clear hK' K'
   rw [show List.map sD (sortS L1) = List.map sD L2 from by rw [hL2]]
   repeat' (first|(with_reducible apply zz1)|((with_reducible apply zz2);rfl;intro K' hK';simp only [WA,simprocAttr];(repeat (constructor;focus (clear hK';intros;simp_all;done)));(try (apply hK';clear hK' K')))|((with_reducible apply zz3);rfl;all_goals (intro h;try exact absurd h (by decide))))
   refine stop_cS rfl (by simp only [UA,WA,simprocAttr]) (hco) ?_
   simp only [WA,simprocAttr,UM, ]
   (try (apply hK';clear hK' K'))
   refine stop_call h0 rfl (by simp only [WA,simprocAttr]) rfl (by simp only [keepS,Option.isSome_some,WA,simprocAttr]) (hcn) ?_
   simp only [WA,simprocAttr,inX,dropS, ]
   (repeat (constructor;focus (clear hK';intros;simp_all;done)))
   (try (apply hK';clear hK' K'))
   repeat' (first|(with_reducible apply zz1)|((with_reducible apply zz2);rfl;intro K' hK';simp only [WA,simprocAttr];(repeat (constructor;focus (clear hK';intros;simp_all;done)));(try (apply hK';clear hK' K')))|((with_reducible apply zz3);rfl;all_goals (intro h;try exact absurd h (by decide))))
   simp only [Kret,retL,retOne,oneV,WA,simprocAttr]
 · have hF : rolesF x = []:=by unfold rolesF;rw [if_neg h]
   have g0 : (gCheck x != 0) = true:=by simpa using h
   rw [hF]
   generalize gCheck x = E at *
   obtain ⟨k,fr,to,so,nm,ls,l⟩:=x
   simp only [Gt.d] at hc ⊢
   refine fn_of_swp (N:=18) Tryz.func10 rfl (by decide) rfl rfl (by simp) (fun C h0=>?_)
   simp only [argE]
   repeat' (first|(with_reducible apply zz1)|((with_reducible apply zz2);rfl;intro K' hK';simp only [WA,simprocAttr];(repeat (constructor;focus (clear hK';intros;simp_all;done)));(try (apply hK';clear hK' K')))|((with_reducible apply zz3);rfl;all_goals (intro h;try exact absurd h (by decide))))
   refine stop_callF rfl (by simp only [WA,simprocAttr]) rfl rfl (hc) ?_
   simp only [WA,simprocAttr,inX,dropS, ]
   (repeat (constructor;focus (clear hK';intros;simp_all;done)))
   (try (apply hK';clear hK' K'))
   repeat' (first|(with_reducible apply zz1)|((with_reducible apply zz2);rfl;intro K' hK';simp only [WA,simprocAttr,g0];(repeat (constructor;focus (clear hK';intros;simp_all;done)));(try (apply hK';clear hK' K')))|((with_reducible apply zz3);rfl;all_goals (intro h;try exact absurd h (by decide))))
   simp only [Kret,retL,retOne,oneV,WA,simprocAttr,List.map_nil]
def Gt.zero : Gt:=.mk 0 noB noB 0 noB [] []
end Go.Proofs.YtdcplkefmpjppaaGreatDoor.GG
/- Names changed and changed back: plain. -/
namespace Go.Proofs.YtdcplkefmpjppaaGreatDoor.GG
open Go.RowKit Go.Sw

theorem bytes_inj {x y : ByteArray} (h : x.toList = y.toList) : x = y:=by
 rw [Lib.toList_data,Lib.toList_data] at h
 obtain ⟨x⟩:=x
 obtain ⟨y⟩:=y
 rw [show x = y from Array.toList_inj.1 h]
theorem inL_iff {l : List ByteArray} {s : ByteArray} : inL l s = true ↔ s ∈ l:=by
 unfold inL
 rw [List.any_eq_true]
 constructor
 · rintro ⟨x,hx,h⟩
   rw [bytes_inj (eq_of_beq h)];exact hx
 · intro h;exact ⟨s,h,by simp⟩
end Go.Proofs.YtdcplkefmpjppaaGreatDoor.GG
