/- (*built).add: a graph as it stands; a symbolic walk. -/
-- TYPESA
import Derived.Test.YtdcplkefmpjppaaGreatDoorH1
import Derived.Test.YtdcplkefmpjppaaGreatDoorU6
set_option linter.unusedVariables false
set_option linter.unusedSimpArgs false
namespace Go.Proofs.YtdcplkefmpjppaaGreatDoor
open Go.RowKit Go.Sw
open Nat renaming reduceAdd → zn2

structure Nd where
 k : Int
 so : Int
 ls : List ByteArray
 to : List Int
def Nd.d (x : Nd) : D:=.agg [iD x.k,iD x.so,.slc (x.ls.map sD),.slc (x.to.map iD)]
def lastIx (nm : ByteArray) (ns : List ByteArray) : Nat → Option Nat
 | 0=>none
 | n + 1=>if ((ns.getD n noB).toList == nm.toList) = true then some n else lastIx nm ns n
mutual
def addT : Tp → List ByteArray → List Int → List Nd → Int × List Nd
 | .mk k so nm ls l,ns,av,L =>
  if k = 9 then (match lastIx nm ns ns.length with | some j=>av.getD j 0 | none=>0,L)
  else if k = 8 then addF l (ns ++ [nm]) (av ++ [(L.length : Int)]) L
  else ((L.length : Int),(addTs l ns av (L ++ [⟨k,so,ls,[]⟩])).2.set L.length ⟨k,so,ls,(addTs l ns av (L ++ [⟨k,so,ls,[]⟩])).1⟩)
def addF : List Tp → List ByteArray → List Int → List Nd → Int × List Nd
 | [],_,_,L=>(0,L)
 | x :: _,ns,av,L=>addT x ns av L
def addTs : List Tp → List ByteArray → List Int → List Nd → List Int × List Nd
 | [],_,_,L=>([],L)
 | x :: l,ns,av,L=>((addT x ns av L).1 :: (addTs l ns av (addT x ns av L).2).1,(addTs l ns av (addT x ns av L).2).2)
end
mutual
def clT : Tp → List ByteArray → Prop
 | .mk k so nm ls l,b=>(k = 9 → inL b nm = true) ∧ clTs l (if k = 8 then b ++ [nm] else b)
def clTs : List Tp → List ByteArray → Prop
 | [],_=>True
 | x :: l,b=>clT x b ∧ clTs l b
end
mutual
theorem addT_len : ∀ (x : Tp) (ns : List ByteArray) (av : List Int) (L : List Nd),L.length ≤ (addT x ns av L).2.length ∧ (addT x ns av L).2.length ≤ L.length + x.size
 | .mk k so nm ls l,ns,av,L=>by
  unfold addT
  simp only [Tp.size]
  split
  · simp only;omega
  split
  · have:=addF_len l (ns ++ [nm]) (av ++ [(L.length : Int)]) L;omega
  · have:=addTs_len l ns av (L ++ [⟨k,so,ls,[]⟩])
    simp only [List.length_set,List.length_append,List.length_cons,List.length_nil] at this ⊢
    omega
theorem addF_len : ∀ (l : List Tp) (ns : List ByteArray) (av : List Int) (L : List Nd),L.length ≤ (addF l ns av L).2.length ∧ (addF l ns av L).2.length ≤ L.length + Tp.sizes l
 | [],ns,av,L=>by simp [addF]
 | x :: l,ns,av,L=>by
  have:=addT_len x ns av L
  simp only [addF,Tp.sizes];omega
theorem addTs_len : ∀ (l : List Tp) (ns : List ByteArray) (av : List Int) (L : List Nd),L.length ≤ (addTs l ns av L).2.length ∧ (addTs l ns av L).2.length ≤ L.length + Tp.sizes l
 | [],ns,av,L=>by simp [addTs]
 | x :: l,ns,av,L=>by
  have h1:=addT_len x ns av L
  have h2:=addTs_len l ns av (addT x ns av L).2
  simp only [addTs,Tp.sizes];omega
end
theorem addTs_to : ∀ (l : List Tp) (ns : List ByteArray) (av : List Int) (L : List Nd),(addTs l ns av L).1.length = l.length
 | [],ns,av,L=>by simp [addTs]
 | x :: l,ns,av,L=>by simp [addTs,addTs_to l]
theorem addTs_app : ∀ (l l' : List Tp) (ns : List ByteArray) (av : List Int) (L : List Nd),addTs (l ++ l') ns av L = ((addTs l ns av L).1 ++ (addTs l' ns av (addTs l ns av L).2).1,(addTs l' ns av (addTs l ns av L).2).2)
 | [],l',ns,av,L=>by simp [addTs]
 | x :: l,l',ns,av,L=>by simp [addTs,addTs_app l l']
theorem Tp.sizes_app : ∀ l l' : List Tp,Tp.sizes (l ++ l') = Tp.sizes l + Tp.sizes l'
 | [],l'=>by simp [Tp.sizes]
 | x :: l,l'=>by simp [Tp.sizes,Tp.sizes_app l l'];omega
theorem Tp.sizes_len : ∀ l : List Tp,l.length ≤ Tp.sizes l
 | []=>by simp [Tp.sizes]
 | x :: l=>by
  have:=x.size_pos
  have:=Tp.sizes_len l
  simp only [Tp.sizes,List.length_cons];omega
mutual
theorem addT_keep : ∀ (x : Tp) (ns : List ByteArray) (av : List Int) (L : List Nd) (i : Nat),i < L.length → (addT x ns av L).2[i]? = L[i]?
 | .mk k so nm ls l,ns,av,L,i,hi=>by
  unfold addT
  split
  · rfl
  split
  · exact addF_keep l _ _ L i hi
  · simp only
    rw [List.getElem?_set_ne (by omega),addTs_keep l ns av _ i (by simp;omega),List.getElem?_append_left hi]
theorem addF_keep : ∀ (l : List Tp) (ns : List ByteArray) (av : List Int) (L : List Nd) (i : Nat),i < L.length → (addF l ns av L).2[i]? = L[i]?
 | [],ns,av,L,i,hi=>rfl
 | x :: l,ns,av,L,i,hi=>by simp only [addF];exact addT_keep x ns av L i hi
theorem addTs_keep : ∀ (l : List Tp) (ns : List ByteArray) (av : List Int) (L : List Nd) (i : Nat),i < L.length → (addTs l ns av L).2[i]? = L[i]?
 | [],ns,av,L,i,hi=>rfl
 | x :: l,ns,av,L,i,hi=>by
  have h1:=addT_len x ns av L
  simp only [addTs]
  rw [addTs_keep l ns av _ i (by omega),addT_keep x ns av L i hi]
end
theorem clTs_mem : ∀ {l : List Tp} {b : List ByteArray},clTs l b → ∀ x ∈ l,clT x b
 | x :: l,b,h,y,hy=>by
  unfold clTs at h
  rcases List.mem_cons.1 hy with rfl | hy
  · exact h.1
  · exact clTs_mem h.2 y hy
theorem lastIx_some {nm : ByteArray} {ns : List ByteArray} : ∀ {n j : Nat},lastIx nm ns n = some j → j < n
 | n + 1,j,h=>by
  unfold lastIx at h
  split at h
  · cases h;omega
  · have:=lastIx_some h;omega
theorem lastIx_has {nm : ByteArray} {ns : List ByteArray} : ∀ {n : Nat},n ≤ ns.length → lastIx nm ns n = none → ∀ j,j < n → ((ns.getD j noB).toList == nm.toList) = false
 | n + 1,hn,h,j,hj=>by
  unfold lastIx at h
  split at h
  · cases h
  · rename_i hq
    by_cases hj2 : j = n
    · subst hj2;simpa using hq
    · exact lastIx_has (by omega) h j (by omega)
theorem lastIx_in {nm : ByteArray} {ns : List ByteArray} (h : inL ns nm = true) : ∃ j,lastIx nm ns ns.length = some j:=by
 cases hl : lastIx nm ns ns.length with
 | some j=>exact ⟨j,rfl⟩
 | none =>
  unfold inL at h
  obtain ⟨b,hb,he⟩:=List.any_eq_true.1 h
  obtain ⟨j,hj,rfl⟩:=List.mem_iff_getElem.1 hb
  have:=lastIx_has (Nat.le_refl _) hl j hj
  rw [List.getD_eq_getElem?_getD,List.getElem?_eq_getElem hj,Option.getD_some] at this
  have he:=eq_of_beq he
  rw [he] at this
  simp at this
def AddS (Γ : Gl) (x : Tp) : Prop := ∀ (ns : List ByteArray) (av : List Int) (L : List Nd),ns.length = av.length → ns.length + x.size ≤ 60 → L.length + x.size ≤ 60 → clT x ns →
 SFn Tryz.prog Γ 70 [.ref 0 0,.d x.d,.d (.slc (ns.map sD)),.d (.slc (av.map iD))] [(0,.cells [.own 1]),(1,.row 4 (L.map Nd.d))] (.d (iD (addT x ns av L).1)) [(0,.cells [.own 1]),(1,.row 4 ((addT x ns av L).2.map Nd.d))]

set_option maxHeartbeats 4000000 in
set_option maxRecDepth 100000 in
theorem add_var (Γ : Gl) (nm : ByteArray) : AddS Γ (.mk 9 0 nm [] []):=by
 intro ns av L hna hz hL hc
 obtain ⟨J,hJ⟩:=lastIx_in (hc.1 rfl)
 have hJn:=lastIx_some hJ
 have e : addT (.mk 9 0 nm [] []) ns av L = (av.getD J 0,L):=by
  unfold addT
  rw [if_pos rfl,hJ]
 rw [e]
 simp only [Tp.d,Tp.ds,List.map_nil,Tp.size,Tp.sizes] at hz hL ⊢
 refine sfn_of_swp (N:=106) Tryz.func70 rfl (by decide) rfl rfl (by simp) (fun C h0=>?_)
 simp only [argS]
 have hw0 : IntKind.i64.wrap ((ns.length : Int) - 1) = (ns.length : Int) - 1:=wrap_in (by omega) (by omega)
 repeat' (first|(with_reducible apply zz1)|((with_reducible apply zz2);rfl;intro K' hK';simp only [WA,simprocAttr,List.length_map,hw0];(repeat (constructor;focus (clear hK';intros;simp_all;done)));(try (apply hK';clear hK' K')))|((with_reducible apply zz3);rfl;all_goals (intro h;try exact absurd h (by decide))))
 refine swp_loop (α := Nat) (fun m=>[(0,.ref 0 0),(2,.d (.slc (ns.map sD))),(3,.d (.slc (av.map iD))),(5,.ref 2 0),(9,.d (iD ((m : Int) - 1)))]) (fun m=>[(0,.cells [.own 1]),(1,.row 4 (L.map Nd.d)),(2,.cells [.d (iD 9),.d (iD 0),.d (sD nm),.d (.slc []),.d (.slc [])])])
  (fun m=>m ≤ ns.length ∧ lastIx nm ns m = some J) (fun m=>m) ns.length ⟨Nat.le_refl _,hJ⟩ (by refine sub_of h0 ?_ ?_ ?_ <;> simp only [US,WA,simprocAttr]) (fun m hm=>?_)
 obtain ⟨hm,hq⟩:=hm
 cases m with
 | zero=>cases hq
 | succ m =>
  have e1 : (((m + 1 : Nat) : Int) - 1) = (m : Int):=by omega
  rw [e1]
  have hb0 : (m : Int) ≥ 0:=by omega
  have hb0' : (0 : Int) ≤ (m : Int):=by omega
  have hb1 : (m : Int) < (ns.length : Int):=by omega
  have hb2 : (m : Int) < (av.length : Int):=by omega
  obtain ⟨x,hx⟩ : ∃ x,ns[m]? = some x:=⟨ns[m]'(by omega),by simp⟩
  obtain ⟨y,hy⟩ : ∃ y,av[m]? = some y:=⟨av[m]'(by omega),by simp⟩
  have hgx : (ns.map sD).getD m default = sD x:=by simp [List.getD,hx]
  have hgy : (av.map iD).getD m default = iD y:=by simp [List.getD,hy]
  have hgx2 : ns.getD m noB = x:=by simp [List.getD,hx]
  unfold lastIx at hq
  rw [hgx2] at hq
  have hw : IntKind.i64.wrap ((m : Int) - 1) = (m : Int) - 1:=wrap_in (by omega) (by omega)
  repeat' (first|(with_reducible apply zz1)|((with_reducible apply zz2);rfl;intro K' hK';simp only [WA,simprocAttr,hb0'];(repeat (constructor;focus (clear hK';intros;simp_all;done)));(try (apply hK';clear hK' K')))|((with_reducible apply zz3);rfl;all_goals (intro h;try exact absurd h (by decide))))
  -- TRACE
  (with_reducible refine swp_draw ?_ ?_ ?_ ([]) (fun K' hK'=>?_)
   · kernel_rfl
   · rfl
   · rfl
   simp only [WA,simprocAttr,UG,hb0',hb1,Int.toNat_natCast,hgx,List.length_map]
   (try (apply hK';clear hK' K')))
  cases hx2 : (x.toList == nm.toList) with
  | true =>
   rw [hx2,if_pos rfl] at hq
   cases hq
   repeat' (first|(with_reducible apply zz1)|((with_reducible apply zz2);rfl;intro K' hK';simp only [WA,simprocAttr,hx2,hb0',hb2,Int.toNat_natCast,hgy,List.length_map];(repeat (constructor;focus (clear hK';intros;simp_all;done)));(try (apply hK';clear hK' K')))|((with_reducible apply zz3);rfl;all_goals (intro h;try exact absurd h (by decide))))
   have : av.getD J 0 = y:=by simp [List.getD,hy]
   rw [this]
   simp only [KretS,retL,retOne,oneV,US,WA,simprocAttr,h0]
  | false =>
   rw [hx2,if_neg (by decide)] at hq
   repeat' (first|(with_reducible apply zz1)|((with_reducible apply zz2);rfl;intro K' hK';simp only [WA,simprocAttr,hx2,hw];(repeat (constructor;focus (clear hK';intros;simp_all;done)));(try (apply hK';clear hK' K')))|((with_reducible apply zz3);rfl;all_goals (intro h;try exact absurd h (by decide))))
   refine ⟨m,⟨(by show m ≤ ns.length;omega),hq⟩,(by show m < m + 1;omega),by refine sub_of h0 ?_ ?_ ?_ <;> simp only [US,WA,simprocAttr]⟩

set_option maxHeartbeats 8000000 in
set_option maxRecDepth 100000 in
theorem add_rec (Γ : Gl) (so : Int) (nm : ByteArray) (x : Tp) (ih : AddS Γ x) : AddS Γ (.mk 8 so nm [] [x]):=by
 intro ns av L hna hz hL hc
 obtain ⟨R,hR⟩ : ∃ R,addT x (ns ++ [nm]) (av ++ [(L.length : Int)]) L = R:=⟨_,rfl⟩
 have e : addT (.mk 8 so nm [] [x]) ns av L = R:=by
  unfold addT
  rw [if_neg (by decide),if_pos rfl]
  exact hR
 rw [e]
 simp only [Tp.size,Tp.sizes] at hz hL
 have hcall:=ih (ns ++ [nm]) (av ++ [(L.length : Int)]) L (by simp [hna]) (by simp;omega) (by omega) (by
  unfold clT at hc
  rw [if_pos rfl] at hc
  exact hc.2.1)
 rw [hR] at hcall
 have hcS:=cloneS_fn Γ ns (by omega)
 have hcI:=cloneI_fn Γ av (by omega)
 have hn1 : (ns.length + 1) * 16 ≤ 140737488355328:=by omega
 have hn2 : ns.length + 1 ≤ maxLen:=by unfold maxLen;omega
 have hn3 : (av.length + 1) * 8 ≤ 140737488355328:=by omega
 have hn4 : av.length + 1 ≤ maxLen:=by unfold maxLen;omega
 obtain ⟨k',so',nm',ls',l'⟩:=x
 simp only [Tp.d,Tp.ds,List.map_nil,List.map_append,List.map_cons] at hcall ⊢
 refine sfn_of_swp (N:=106) Tryz.func70 rfl (by decide) rfl rfl (by simp) (fun C h0=>?_)
 simp only [argS]
 repeat' (first|(with_reducible apply zz1)|((with_reducible apply zz2);rfl;intro K' hK';simp only [WA,simprocAttr,List.length_map];(repeat (constructor;focus (clear hK';intros;simp_all;done)));(try (apply hK';clear hK' K')))|((with_reducible apply zz3);rfl;all_goals (intro h;try exact absurd h (by decide))))
 -- TRACE
 (with_reducible refine swp_drawL ?_ ?_ ?_ (⟨⟨[],[(6,(1,ns.map sD)),(12,(1,av.map iD))]⟩,[],[],[],[]⟩) _ rfl 20 [20,21] ([true,true,true,true,true,true,true,true,true,true,true,true,true,true,true,true,true,true,true,true,false,false]).toArray (by decide) ?_ (by decide) (by decide) ?_ (fun K' hK' gops fin hgops hfin=>?_)
  · kernel_rfl
  · rfl
  · rfl
  · kernel_rfl
  · kernel_rfl
  repeat' first
   | (refine vcX_dead rfl trivial (by simp only [WA,simprocAttr,UX,UA];rfl) (by simp only [List.nil_append,List.cons_append];rfl) (by simp only [zn2];rfl) ?_)
   | (refine vcX_step rfl rfl trivial (by simp only [WA,simprocAttr,UX,UA,hcS,hcI,hn1,hn2,hn3,hn4,List.length_map,List.getD_cons_zero];rfl) ?_ (by simp only [WA,simprocAttr,UX,UA];rfl) (by simp only [WA,simprocAttr,UX,UA];rfl) (by simp only [List.nil_append,List.cons_append];rfl) (by simp only [zn2];rfl) ?_;focus (first | trivial | ((repeat' apply And.intro) <;> first | trivial | assumption | (clear hK' hfin hgops;intros;simp_all;done))))
  (refine vcX_nil (by subst hfin;kernel_rfl) ?_)
  subst hgops
  clear hfin fin)
 refine any_frz [9,15] h0 (by simp only [Option.isSome_some,UF,WA,simprocAttr]) ?_
 simp only [WA,simprocAttr,UF]
 refine any_all (rs:=[20]) (by kernel_rfl) (by simp) (fun i hi=>?_)
 simp only [List.mem_cons,List.not_mem_nil,or_false] at hi
 obtain rfl:=hi
 refine ⟨_,rfl,rfl,?_⟩
 refine aop_cS rfl rfl (by simp only [UA,WA,simprocAttr]) (hcall) ?_
 simp only [UM,WA,simprocAttr]
 refine any_all (rs:=[21]) (by kernel_rfl) (by simp) (fun i hi=>?_)
 simp only [List.mem_cons,List.not_mem_nil,or_false] at hi
 obtain rfl:=hi
 refine ⟨_,rfl,rfl,?_⟩
 refine aop_step rfl rfl (by simp only [WA,simprocAttr];rfl) ?_ ?_
 · (repeat (refine And.intro ?_ ?_)) <;> first | trivial | (simp_all;done)
 simp only [WA,simprocAttr]
 refine any_done (by kernel_rfl) ?_
 refine hK' _ _ ?_
 clear hK' K'
 repeat' (first|(with_reducible apply zz1)|((with_reducible apply zz2);rfl;intro K' hK';simp only [WA,simprocAttr];(repeat (constructor;focus (clear hK';intros;simp_all;done)));(try (apply hK';clear hK' K')))|((with_reducible apply zz3);rfl;all_goals (intro h;try exact absurd h (by decide))))
 simp only [KretS,retL,retOne,oneV,US,WA,simprocAttr,h0]

set_option maxHeartbeats 8000000 in
set_option maxRecDepth 100000 in
theorem add_node (Γ : Gl) (k so : Int) (nm : ByteArray) (ls : List ByteArray) (l : List Tp) (h9 : k ≠ 9) (h8 : k ≠ 8) (hls : ls.length ≤ 6) (ih : ∀ x ∈ l,AddS Γ x) : AddS Γ (.mk k so nm ls l):=by
 intro ns av L hna hz hL hc
 have hll:=Tp.ds_len l
 obtain ⟨L1,hL1⟩ : ∃ L1,L ++ [(⟨k,so,ls,[]⟩ : Nd)] = L1:=⟨_,rfl⟩
 have e : addT (.mk k so nm ls l) ns av L = ((L.length : Int),(addTs l ns av L1).2.set L.length ⟨k,so,ls,(addTs l ns av L1).1⟩):=by
  unfold addT
  rw [if_neg h9,if_neg h8,hL1]
 rw [e]
 clear e
 simp only [Tp.size] at hz hL
 have hL1n : L1.length = L.length + 1:=by rw [← hL1];simp
 have hm1 : L.map Nd.d ++ [.agg [iD k,iD so,.slc (ls.map sD),.slc []]] = L1.map Nd.d:=by rw [← hL1];simp [Nd.d]
 have hg1 : L1[L.length]? = some ⟨k,so,ls,[]⟩:=by rw [← hL1];simp
 have hcl : ∀ x ∈ l,clT x ns:=by
  unfold clT at hc
  rw [if_neg h8] at hc
  exact clTs_mem hc.2
 clear hL1
 have hcS:=cloneS_d Γ ls (by omega)
 have hn1 : (L.length + 1) * 64 ≤ 140737488355328:=by omega
 have hn2 : L.length + 1 ≤ maxLen:=by unfold maxLen;omega
 have g9 : (k == 9) = false:=by simpa using h9
 have g8 : (k == 8) = false:=by simpa using h8
 simp only [Tp.d]
 refine sfn_of_swp (N:=106) Tryz.func70 rfl (by decide) rfl rfl (by simp) (fun C h0=>?_)
 simp only [argS]
 repeat' (first|(with_reducible apply zz1)|((with_reducible apply zz2);rfl;intro K' hK';simp only [WA,simprocAttr,g9,g8,List.length_map];(repeat (constructor;focus (clear hK';intros;simp_all;done)));(try (apply hK';clear hK' K')))|((with_reducible apply zz3);rfl;all_goals (intro h;try exact absurd h (by decide))))
 -- TRACE
 (with_reducible refine swp_drawX ?_ ?_ ?_ (⟨⟨[(11,.slc (ls.map sD))],[]⟩,[],[],[],[]⟩) _ rfl (fun K' hK' gops fin hgops hfin=>?_)
  · kernel_rfl
  · rfl
  · rfl
  repeat' first
   | (refine vcX_dead rfl trivial (by simp only [WA,simprocAttr,UX,UA];rfl) (by simp only [List.nil_append,List.cons_append];rfl) (by simp only [zn2];rfl) ?_)
   | (refine vcX_step rfl rfl trivial (by simp only [WA,simprocAttr,UX,UA,hcS,hn1,hn2,hm1,List.length_map ];rfl) ?_ (by simp only [WA,simprocAttr,UX,UA];rfl) (by simp only [WA,simprocAttr,UX,UA];rfl) (by simp only [List.nil_append,List.cons_append];rfl) (by simp only [zn2];rfl) ?_;focus (first | trivial | ((repeat' apply And.intro) <;> first | trivial | assumption | (clear hK' hfin hgops;intros;simp_all;done))))
  (refine vcX_nil (by subst hfin;kernel_rfl) ?_)
  clear hfin hgops fin gops
  (try (apply hK';clear hK' K')))
 refine kseq_n ?_
 refine swp_seq ?_
 (with_reducible refine swp_region ?_ (fun K' hK'=>?_)
  · rfl
  simp only [WA,simprocAttr]
  (repeat (constructor;focus (clear hK';intros;simp_all;done))))
 refine hK' _ _ ?_
 clear hK' K'
 refine kseq_n ?_
 refine swp_nil 11 30 1 rfl rfl (by decide) ?_
 simp only [WA,simprocAttr]
 repeat' (first|(with_reducible apply zz1)|((with_reducible apply zz2);rfl;intro K' hK';simp only [WA,simprocAttr,hll];(repeat (constructor;focus (clear hK';intros;simp_all;done)));(try (apply hK';clear hK' K')))|((with_reducible apply zz3);rfl;all_goals (intro h;try exact absurd h (by decide))))
 refine swp_loop (α := Nat × List Int × List Nd) (fun q=>[(0,.ref 0 0),(2,.d (.slc (ns.map sD))),(3,.d (.slc (av.map iD))),(10,.d (iD L.length)),(11,.own 30),(82,.d (.slc (Tp.ds l))),(83,.d (iD l.length)),(84,.d (iD q.1))]) (fun q=>[(0,.cells [.own 1]),(1,.row 4 (q.2.2.map Nd.d)),(30,.row 1 (q.2.1.map iD))])
  (fun q=>q.1 ≤ l.length ∧ addTs (l.take q.1) ns av L1 = q.2) (fun q=>l.length - q.1) (0,[],L1) ⟨Nat.zero_le _,by simp [addTs]⟩ (by refine sub_of h0 ?_ ?_ ?_ <;> simp only [US,WA,simprocAttr,hll]) (fun q hq=>?_)
 obtain ⟨j,to,L2⟩:=q
 obtain ⟨hj,hq⟩:=hq
 simp only at hj hq
 have hto : to.length = j:=by
  have:=addTs_to (l.take j) ns av L1
  rw [hq] at this
  simp only [List.length_take] at this
  omega
 have hsz : Tp.sizes (l.take j) + Tp.sizes (l.drop j) = Tp.sizes l:=by rw [← Tp.sizes_app,List.take_append_drop]
 have hlen2:=addTs_len (l.take j) ns av L1
 rw [hq] at hlen2
 simp only at hlen2
 have hb0 : (0 : Int) ≤ (j : Int):=by omega
 have hlL : l.length ≤ Tp.sizes l:=Tp.sizes_len l
 by_cases hlt : j < l.length
 · obtain ⟨x,hx⟩ : ∃ x,l[j]? = some x:=⟨l[j],by simp [hlt]⟩
   have hxm:=List.mem_of_getElem? hx
   have hget:=Tp.ds_get l j x hx
   have hb1 : (j : Int) < (l.length : Int):=by omega
   have hw3 : IntKind.i64.wrap ((j : Int) + 1) = ((j + 1 : Nat) : Int):=by rw [wrap_in (by omega) (by omega)];omega
   have hd : l.drop j = x :: l.drop (j + 1):=by
    obtain ⟨h1,h2⟩:=List.getElem?_eq_some_iff.1 hx
    rw [List.drop_eq_getElem_cons h1,h2]
   have htk : l.take (j + 1) = l.take j ++ [x]:=by
    rw [List.take_add_one,hx];rfl
   have hsx : Tp.sizes (l.take j) + x.size ≤ Tp.sizes l:=by rw [← hsz,hd];simp only [Tp.sizes];omega
   have hcall:=ih x hxm ns av L2 hna (by omega) (by omega) (hcl x hxm)
   have hnx : addTs (l.take (j + 1)) ns av L1 = (to ++ [(addT x ns av L2).1],(addT x ns av L2).2):=by
    rw [htk,addTs_app,hq]
    simp [addTs]
   obtain ⟨n1,L3,hse⟩ : ∃ n1 L3,addT x ns av L2 = (n1,L3):=⟨_,_,rfl⟩
   rw [hse] at hcall hnx
   simp only at hcall hnx
   have hm3 : to.map iD ++ [iD n1] = (to ++ [n1]).map iD:=by simp
   have hn3 : (to.length + 1) * 8 ≤ 140737488355328:=by omega
   have hn4 : to.length + 1 ≤ maxLen:=by unfold maxLen;omega
   obtain ⟨k',so',nm',ls',l'⟩:=x
   simp only [Tp.d] at hget hcall
   repeat' (first|(with_reducible apply zz1)|((with_reducible apply zz2);rfl;intro K' hK';simp only [WA,simprocAttr,Int.toNat_natCast,hget,hll,hb0,hb1];(repeat (constructor;focus (clear hK';intros;simp_all;done)));(try (apply hK';clear hK' K')))|((with_reducible apply zz3);rfl;all_goals (intro h;try exact absurd h (by decide))))
   refine stop_cS rfl (by simp only [UA,WA,simprocAttr]) (hcall ) ?_
   simp only [WA,simprocAttr,UM,  hn3,hn4,List.length_map,hm3,Int.toNat_natCast]
   (try (apply hK';clear hK' K'))
   repeat' (first|(with_reducible apply zz1)|((with_reducible apply zz2);rfl;intro K' hK';simp only [WA,simprocAttr,hw3];(repeat (constructor;focus (clear hK';intros;simp_all;done)));(try (apply hK';clear hK' K')))|((with_reducible apply zz3);rfl;all_goals (intro h;try exact absurd h (by decide))))
   refine ⟨(j + 1,to ++ [n1],L3),⟨(by show j + 1 ≤ l.length;omega),hnx⟩,(by show l.length - (j + 1) < l.length - j;omega),by refine sub_of h0 ?_ ?_ ?_ <;> simp only [US,WA,simprocAttr]⟩
 · have hb1 : ¬ (j : Int) < (l.length : Int):=by omega
   rw [List.take_of_length_le (by omega)] at hq
   have hg2 : L2[L.length]? = some ⟨k,so,ls,[]⟩:=by
    rw [← hg1]
    have:=addTs_keep l ns av L1 L.length (by omega)
    rw [hq] at this
    exact this
   rw [hq]
   simp only
   have hgd : (L2.map Nd.d).getD L.length default = .agg [iD k,iD so,.slc (ls.map sD),.slc []]:=by simp [List.getD,hg2,Nd.d]
   have hset : (L2.map Nd.d).set L.length (.agg [iD k,iD so,.slc (ls.map sD),.slc (to.map iD)]) = (L2.set L.length ⟨k,so,ls,to⟩).map Nd.d:=by
    rw [List.map_set];rfl
   have hb2 : (L.length : Int) < (L2.length : Int):=by omega
   have hb3 : (0 : Int) ≤ (L.length : Int):=by omega
   repeat' (first|(with_reducible apply zz1)|((with_reducible apply zz2);rfl;intro K' hK';simp only [WA,simprocAttr,hb1];(repeat (constructor;focus (clear hK';intros;simp_all;done)));(try (apply hK';clear hK' K')))|((with_reducible apply zz3);rfl;all_goals (intro h;try exact absurd h (by decide))))
   refine stop_frz [30] h0 (by simp only [Option.isSome_some,UF,WA,simprocAttr]) ?_
   simp only [WA,simprocAttr,UF]
   refine vcTo_ok 8 rfl ?_
   simp only [WA,simprocAttr,vcTo,  Int.toNat_natCast,List.length_map,hgd,hb2,hb3]
   (repeat (constructor;focus (clear hK';intros;simp_all;done)))
   refine stop_sE rfl (by simp only [WA,simprocAttr,storeE,setE,dAll,Option.map_some,hgd,List.length_map,hset];rfl) ?_ ?_
   · first | trivial | ((repeat' apply And.intro) <;> first | trivial | assumption | (clear hK';intros;simp_all;done))
   simp only [WA,simprocAttr,hgd,List.length_map,hset]
   (repeat (constructor;focus (clear hK';intros;simp_all;done)))
   (try (apply hK';clear hK' K'))
   repeat' (first|(with_reducible apply zz1)|((with_reducible apply zz2);rfl;intro K' hK';simp only [WA,simprocAttr];(repeat (constructor;focus (clear hK';intros;simp_all;done)));(try (apply hK';clear hK' K')))|((with_reducible apply zz3);rfl;all_goals (intro h;try exact absurd h (by decide))))
   simp only [KretS,retL,retOne,oneV,US,WA,simprocAttr,h0]
theorem add_all (Γ : Gl) {x : Tp} (h : OkT x) : AddS Γ x:=by
 induction h with
 | nil=>exact add_node Γ 1 0 noB [] [] (by decide) (by decide) (by simp) (fun x hx=>by cases hx)
 | pass k so x hk h1 h3 hx ih=>exact add_node Γ k so noB [] [x] (by omega) (by omega) (by simp) (fun y hy=>by
  rcases List.mem_cons.1 hy with rfl | hy
  · exact ih
  · cases hy)
 | give k x y hk hx hy ih1 ih2=>exact add_node Γ k 0 noB [] [x,y] (by omega) (by omega) (by simp) (fun z hz=>by
  rcases List.mem_cons.1 hz with rfl | hz
  · exact ih1
  rcases List.mem_cons.1 hz with rfl | hz
  · exact ih2
  · cases hz)
 | pick k ls l hk hl hn h ih=>exact add_node Γ k 0 noB ls l (by omega) (by omega) (labels_len hl) ih
 | bind nm x hn hx ih=>exact add_rec Γ 0 nm x ih
 | var nm hn=>exact add_var Γ nm
end Go.Proofs.YtdcplkefmpjppaaGreatDoor
