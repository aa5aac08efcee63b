/- (*built).add: a graph as it stands; a symbolic walk. -/
-- TYPESA
import Derived.Test.YtgecnlcbdbaneaaDoorH1
import Derived.Test.YtgecnlcbdbaneaaDoorU6
set_option linter.unusedVariables false
set_option linter.unusedSimpArgs false
namespace Go.Proofs.YtgecnlcbdbaneaaDoor
open Go.RowKit Go.Sw
open _root_.List renaming length_map → za, getD → zb, nil_append → zf, cons_append → zh, length_cons → zi, map_nil → zn, mem_cons → zq, not_mem_nil → zu
open _root_.Int renaming toNat_natCast → ze
open Nat renaming reduceAdd → zn2

structure Nd where
 k : Int
 so : Int
 ls : List ByteArray
 to : List Int
def Nd.d (x : Nd) : D:=.agg [iD x.k,iD x.so,.slc (x.ls.map sD),.slc (x.to.map iD)]
def qi8 (nm : ByteArray) (ns : List ByteArray) : Nat → Option Nat
 | 0=>none
 | n + 1=>if ((ns.getD n noB).toList == nm.toList) = true then some n else qi8 nm ns n
mutual
def qh9 : Tp → List ByteArray → List Int → List Nd → Int × List Nd
 | .mk k so nm ls l,ns,av,L =>
  if k = 9 then (match qi8 nm ns ns.length with | some j=>av.getD j 0 | none=>0,L)
  else if k = 8 then xw2 l (ns ++ [nm]) (av ++ [(L.length : Int)]) L
  else ((L.length : Int),(qg3 l ns av (L ++ [⟨k,so,ls,[]⟩])).2.set L.length ⟨k,so,ls,(qg3 l ns av (L ++ [⟨k,so,ls,[]⟩])).1⟩)
def xw2 : List Tp → List ByteArray → List Int → List Nd → Int × List Nd
 | [],_,_,L=>(0,L)
 | x :: _,ns,av,L=>qh9 x ns av L
def qg3 : List Tp → List ByteArray → List Int → List Nd → List Int × List Nd
 | [],_,_,L=>([],L)
 | x :: l,ns,av,L=>((qh9 x ns av L).1 :: (qg3 l ns av (qh9 x ns av L).2).1,(qg3 l ns av (qh9 x ns av L).2).2)
end
mutual
def clT : Tp → List ByteArray → Prop
 | .mk k so nm ls l,b=>(k = 9 → inL b nm = true) ∧ xq8 l (if k = 8 then b ++ [nm] else b)
def xq8 : List Tp → List ByteArray → Prop
 | [],_=>True
 | x :: l,b=>clT x b ∧ xq8 l b
end
mutual
theorem vb4 : ∀ (x : Tp) (ns : List ByteArray) (av : List Int) (L : List Nd),L.length ≤ (qh9 x ns av L).2.length ∧ (qh9 x ns av L).2.length ≤ L.length + x.size
 | .mk k so nm ls l,ns,av,L=>by
  unfold qh9
  simp only [Tp.size]
  split
  · simp only;omega
  split
  · have:=ys1 l (ns ++ [nm]) (av ++ [(L.length : Int)]) L;omega
  · have:=qk1 l ns av (L ++ [⟨k,so,ls,[]⟩])
    simp only [List.length_set,List.length_append,zi,List.length_nil] at this ⊢
    omega
theorem ys1 : ∀ (l : List Tp) (ns : List ByteArray) (av : List Int) (L : List Nd),L.length ≤ (xw2 l ns av L).2.length ∧ (xw2 l ns av L).2.length ≤ L.length + Tp.sizes l
 | [],ns,av,L=>by simp [xw2]
 | x :: l,ns,av,L=>by
  have:=vb4 x ns av L
  simp only [xw2,Tp.sizes];omega
theorem qk1 : ∀ (l : List Tp) (ns : List ByteArray) (av : List Int) (L : List Nd),L.length ≤ (qg3 l ns av L).2.length ∧ (qg3 l ns av L).2.length ≤ L.length + Tp.sizes l
 | [],ns,av,L=>by simp [qg3]
 | x :: l,ns,av,L=>by
  have h1:=vb4 x ns av L
  have h2:=qk1 l ns av (qh9 x ns av L).2
  simp only [qg3,Tp.sizes];omega
end
theorem vh5 : ∀ (l : List Tp) (ns : List ByteArray) (av : List Int) (L : List Nd),(qg3 l ns av L).1.length = l.length
 | [],ns,av,L=>by simp [qg3]
 | x :: l,ns,av,L=>by simp [qg3,vh5 l]
theorem xe5 : ∀ (l l' : List Tp) (ns : List ByteArray) (av : List Int) (L : List Nd),qg3 (l ++ l') ns av L = ((qg3 l ns av L).1 ++ (qg3 l' ns av (qg3 l ns av L).2).1,(qg3 l' ns av (qg3 l ns av L).2).2)
 | [],l',ns,av,L=>by simp [qg3]
 | x :: l,l',ns,av,L=>by simp [qg3,xe5 l l']
theorem Tp.sizes_app : ∀ l l' : List Tp,Tp.sizes (l ++ l') = Tp.sizes l + Tp.sizes l'
 | [],l'=>by simp [Tp.sizes]
 | x :: l,l'=>by simp [Tp.sizes,Tp.sizes_app l l'];omega
theorem Tp.sizes_len : ∀ l : List Tp,l.length ≤ Tp.sizes l
 | []=>by simp [Tp.sizes]
 | x :: l=>by
  have:=x.size_pos
  have:=Tp.sizes_len l
  simp only [Tp.sizes,zi];omega
mutual
theorem xa8 : ∀ (x : Tp) (ns : List ByteArray) (av : List Int) (L : List Nd) (i : Nat),i < L.length → (qh9 x ns av L).2[i]? = L[i]?
 | .mk k so nm ls l,ns,av,L,i,hi=>by
  unfold qh9
  split
  · rfl
  split
  · exact yf3 l _ _ L i hi
  · simp only
    rw [List.getElem?_set_ne (by omega),qn8 l ns av _ i (by simp;omega),List.getElem?_append_left hi]
theorem yf3 : ∀ (l : List Tp) (ns : List ByteArray) (av : List Int) (L : List Nd) (i : Nat),i < L.length → (xw2 l ns av L).2[i]? = L[i]?
 | [],ns,av,L,i,hi=>rfl
 | x :: l,ns,av,L,i,hi=>by simp only [xw2];exact xa8 x ns av L i hi
theorem qn8 : ∀ (l : List Tp) (ns : List ByteArray) (av : List Int) (L : List Nd) (i : Nat),i < L.length → (qg3 l ns av L).2[i]? = L[i]?
 | [],ns,av,L,i,hi=>rfl
 | x :: l,ns,av,L,i,hi=>by
  have h1:=vb4 x ns av L
  simp only [qg3]
  rw [qn8 l ns av _ i (by omega),xa8 x ns av L i hi]
end
theorem vt7 : ∀ {l : List Tp} {b : List ByteArray},xq8 l b → ∀ x ∈ l,clT x b
 | x :: l,b,h,y,hy=>by
  unfold xq8 at h
  rcases List.mem_cons.1 hy with rfl | hy
  · exact h.1
  · exact vt7 h.2 y hy
theorem qx4 {nm : ByteArray} {ns : List ByteArray} : ∀ {n j : Nat},qi8 nm ns n = some j → j < n
 | n + 1,j,h=>by
  unfold qi8 at h
  split at h
  · cases h;omega
  · have:=qx4 h;omega
theorem vs7 {nm : ByteArray} {ns : List ByteArray} : ∀ {n : Nat},n ≤ ns.length → qi8 nm ns n = none → ∀ j,j < n → ((ns.getD j noB).toList == nm.toList) = false
 | n + 1,hn,h,j,hj=>by
  unfold qi8 at h
  split at h
  · cases h
  · rename_i hq
    by_cases hj2 : j = n
    · subst hj2;simpa using hq
    · exact vs7 (by omega) h j (by omega)
theorem vk1 {nm : ByteArray} {ns : List ByteArray} (h : inL ns nm = true) : ∃ j,qi8 nm ns ns.length = some j:=by
 cases hl : qi8 nm ns ns.length with
 | some j=>exact ⟨j,rfl⟩
 | none =>
  unfold inL at h
  obtain ⟨b,hb,he⟩:=List.any_eq_true.1 h
  obtain ⟨j,hj,rfl⟩:=List.mem_iff_getElem.1 hb
  have:=vs7 (Nat.le_refl _) hl j hj
  rw [List.getD_eq_getElem?_getD,List.getElem?_eq_getElem hj,Option.getD_some] at this
  have he:=eq_of_beq he
  rw [he] at this
  simp at this
def AddS (Γ : Gl) (x : Tp) : Prop := ∀ (ns : List ByteArray) (av : List Int) (L : List Nd),ns.length = av.length → ns.length + x.size ≤ 60 → L.length + x.size ≤ 60 → clT x ns →
 SFn Tryd.prog Γ 45 [.ref 0 0,.d x.d,.d (.slc (ns.map sD)),.d (.slc (av.map iD))] [(0,.cells [.own 1]),(1,.row 4 (L.map Nd.d))] (.d (iD (qh9 x ns av L).1)) [(0,.cells [.own 1]),(1,.row 4 ((qh9 x ns av L).2.map Nd.d))]

set_option maxHeartbeats 4000000 in
set_option maxRecDepth 100000 in
theorem add_var (Γ : Gl) (nm : ByteArray) : AddS Γ (.mk 9 0 nm [] []):=by
 intro ns av L hna hz hL hc
 obtain ⟨J,hJ⟩:=vk1 (hc.1 rfl)
 have hJn:=qx4 hJ
 have e : qh9 (.mk 9 0 nm [] []) ns av L = (av.getD J 0,L):=by
  unfold qh9
  rw [if_pos rfl,hJ]
 rw [e]
 simp only [Tp.d,Tp.ds,zn,Tp.size,Tp.sizes] at hz hL ⊢
 refine qe0 (N:=106) Tryd.func45 rfl (by decide) rfl rfl (by simp) (fun C h0=>?_)
 simp only [vg9]
 have hw0 : IntKind.i64.wrap ((ns.length : Int) - 1) = (ns.length : Int) - 1:=qd7 (by omega) (by omega)
 repeat' (first|(with_reducible apply zz1)|((with_reducible apply zz2);rfl;intro K' hK';simp only [WA,simprocAttr,za,hw0];(repeat (constructor;focus (clear hK';intros;simp_all;done)));(try (apply hK';clear hK' K')))|((with_reducible apply zz3);rfl;all_goals (intro h;try exact absurd h (by decide))))
 refine qd3 (α := Nat) (fun m=>[(0,.ref 0 0),(2,.d (.slc (ns.map sD))),(3,.d (.slc (av.map iD))),(5,.ref 2 0),(9,.d (iD ((m : Int) - 1)))]) (fun m=>[(0,.cells [.own 1]),(1,.row 4 (L.map Nd.d)),(2,.cells [.d (iD 9),.d (iD 0),.d (sD nm),.d (.slc []),.d (.slc [])])])
  (fun m=>m ≤ ns.length ∧ qi8 nm ns m = some J) (fun m=>m) ns.length ⟨Nat.le_refl _,hJ⟩ (by refine qa3 h0 ?_ ?_ ?_ <;> simp only [US,WA,simprocAttr]) (fun m hm=>?_)
 obtain ⟨hm,hq⟩:=hm
 cases m with
 | zero=>cases hq
 | succ m =>
  have e1 : (((m + 1 : Nat) : Int) - 1) = (m : Int):=by omega
  rw [e1]
  have hb0 : (m : Int) ≥ 0:=by omega
  have hb0' : (0 : Int) ≤ (m : Int):=by omega
  have hb1 : (m : Int) < (ns.length : Int):=by omega
  have hb2 : (m : Int) < (av.length : Int):=by omega
  obtain ⟨x,hx⟩ : ∃ x,ns[m]? = some x:=⟨ns[m]'(by omega),by simp⟩
  obtain ⟨y,hy⟩ : ∃ y,av[m]? = some y:=⟨av[m]'(by omega),by simp⟩
  have hgx : (ns.map sD).getD m default = sD x:=by simp [zb,hx]
  have hgy : (av.map iD).getD m default = iD y:=by simp [zb,hy]
  have hgx2 : ns.getD m noB = x:=by simp [zb,hx]
  unfold qi8 at hq
  rw [hgx2] at hq
  have hw : IntKind.i64.wrap ((m : Int) - 1) = (m : Int) - 1:=qd7 (by omega) (by omega)
  repeat' (first|(with_reducible apply zz1)|((with_reducible apply zz2);rfl;intro K' hK';simp only [WA,simprocAttr,hb0'];(repeat (constructor;focus (clear hK';intros;simp_all;done)));(try (apply hK';clear hK' K')))|((with_reducible apply zz3);rfl;all_goals (intro h;try exact absurd h (by decide))))
  -- TRACE
  (with_reducible refine qi1 ?_ ?_ ?_ ([]) (fun K' hK'=>?_)
   · kernel_rfl
   · rfl
   · rfl
   simp only [WA,simprocAttr,UG,hb0',hb1,ze,hgx,za]
   (try (apply hK';clear hK' K')))
  cases hx2 : (x.toList == nm.toList) with
  | true =>
   rw [hx2,if_pos rfl] at hq
   cases hq
   repeat' (first|(with_reducible apply zz1)|((with_reducible apply zz2);rfl;intro K' hK';simp only [WA,simprocAttr,hx2,hb0',hb2,ze,hgy,za];(repeat (constructor;focus (clear hK';intros;simp_all;done)));(try (apply hK';clear hK' K')))|((with_reducible apply zz3);rfl;all_goals (intro h;try exact absurd h (by decide))))
   have : av.getD J 0 = y:=by simp [zb,hy]
   rw [this]
   simp only [qf8,qd5,qa2,qd6,US,WA,simprocAttr,h0]
  | false =>
   rw [hx2,if_neg (by decide)] at hq
   repeat' (first|(with_reducible apply zz1)|((with_reducible apply zz2);rfl;intro K' hK';simp only [WA,simprocAttr,hx2,hw];(repeat (constructor;focus (clear hK';intros;simp_all;done)));(try (apply hK';clear hK' K')))|((with_reducible apply zz3);rfl;all_goals (intro h;try exact absurd h (by decide))))
   refine ⟨m,⟨(by show m ≤ ns.length;omega),hq⟩,(by show m < m + 1;omega),by refine qa3 h0 ?_ ?_ ?_ <;> simp only [US,WA,simprocAttr]⟩

set_option maxHeartbeats 8000000 in
set_option maxRecDepth 100000 in
theorem add_rec (Γ : Gl) (so : Int) (nm : ByteArray) (x : Tp) (ih : AddS Γ x) : AddS Γ (.mk 8 so nm [] [x]):=by
 intro ns av L hna hz hL hc
 obtain ⟨R,hR⟩ : ∃ R,qh9 x (ns ++ [nm]) (av ++ [(L.length : Int)]) L = R:=⟨_,rfl⟩
 have e : qh9 (.mk 8 so nm [] [x]) ns av L = R:=by
  unfold qh9
  rw [if_neg (by decide),if_pos rfl]
  exact hR
 rw [e]
 simp only [Tp.size,Tp.sizes] at hz hL
 have hcall:=ih (ns ++ [nm]) (av ++ [(L.length : Int)]) L (by simp [hna]) (by simp;omega) (by omega) (by
  unfold clT at hc
  rw [if_pos rfl] at hc
  exact hc.2.1)
 rw [hR] at hcall
 have hcS:=qu1 Γ ns (by omega)
 have hcI:=ya4 Γ av (by omega)
 have hn1 : (ns.length + 1) * 16 ≤ 140737488355328:=by omega
 have hn2 : ns.length + 1 ≤ maxLen:=by unfold maxLen;omega
 have hn3 : (av.length + 1) * 8 ≤ 140737488355328:=by omega
 have hn4 : av.length + 1 ≤ maxLen:=by unfold maxLen;omega
 obtain ⟨k',so',nm',ls',l'⟩:=x
 simp only [Tp.d,Tp.ds,zn,List.map_append,List.map_cons] at hcall ⊢
 refine qe0 (N:=106) Tryd.func45 rfl (by decide) rfl rfl (by simp) (fun C h0=>?_)
 simp only [vg9]
 repeat' (first|(with_reducible apply zz1)|((with_reducible apply zz2);rfl;intro K' hK';simp only [WA,simprocAttr,za];(repeat (constructor;focus (clear hK';intros;simp_all;done)));(try (apply hK';clear hK' K')))|((with_reducible apply zz3);rfl;all_goals (intro h;try exact absurd h (by decide))))
 -- TRACE
 (with_reducible refine qu2 ?_ ?_ ?_ (⟨⟨[],[(6,(1,ns.map sD)),(12,(1,av.map iD))]⟩,[],[],[],[]⟩) _ rfl 20 [20,21] ([true,true,true,true,true,true,true,true,true,true,true,true,true,true,true,true,true,true,true,true,false,false]).toArray (by decide) ?_ (by decide) (by decide) ?_ (fun K' hK' gops fin hgops hfin=>?_)
  · kernel_rfl
  · rfl
  · rfl
  · kernel_rfl
  · kernel_rfl
  repeat' first
   | (refine qa9 rfl trivial (by simp only [WA,simprocAttr,UX,UA];rfl) (by simp only [zf,zh];rfl) (by simp only [zn2];rfl) ?_)
   | (refine qa8 rfl rfl trivial (by simp only [WA,simprocAttr,UX,UA,hcS,hcI,hn1,hn2,hn3,hn4,za,List.getD_cons_zero];rfl) ?_ (by simp only [WA,simprocAttr,UX,UA];rfl) (by simp only [WA,simprocAttr,UX,UA];rfl) (by simp only [zf,zh];rfl) (by simp only [zn2];rfl) ?_;focus (first | trivial | ((repeat' constructor) <;> first | trivial | assumption | (clear hK' hfin hgops;intros;simp_all;done))))
  (refine qb5 (by subst hfin;kernel_rfl) ?_)
  subst hgops
  clear hfin fin)
 refine yz9 [9,15] h0 (by simp only [Option.isSome_some,UF,WA,simprocAttr]) ?_
 simp only [WA,simprocAttr,UF]
 refine qa5 (rs:=[20]) (by kernel_rfl) (by simp) (fun i hi=>?_)
 simp only [zq,zu,or_false] at hi
 obtain rfl:=hi
 refine ⟨_,rfl,rfl,?_⟩
 refine vm3 rfl rfl (by simp only [UA,WA,simprocAttr]) (hcall) ?_
 simp only [UM,WA,simprocAttr]
 refine qa5 (rs:=[21]) (by kernel_rfl) (by simp) (fun i hi=>?_)
 simp only [zq,zu,or_false] at hi
 obtain rfl:=hi
 refine ⟨_,rfl,rfl,?_⟩
 refine qa1 rfl rfl (by simp only [WA,simprocAttr];rfl) ?_ ?_
 · (repeat (refine And.intro ?_ ?_)) <;> first | trivial | (simp_all;done)
 simp only [WA,simprocAttr]
 refine qe3 (by kernel_rfl) ?_
 refine hK' _ _ ?_
 clear hK' K'
 repeat' (first|(with_reducible apply zz1)|((with_reducible apply zz2);rfl;intro K' hK';simp only [WA,simprocAttr];(repeat (constructor;focus (clear hK';intros;simp_all;done)));(try (apply hK';clear hK' K')))|((with_reducible apply zz3);rfl;all_goals (intro h;try exact absurd h (by decide))))
 simp only [qf8,qd5,qa2,qd6,US,WA,simprocAttr,h0]

set_option maxHeartbeats 8000000 in
set_option maxRecDepth 100000 in
theorem vi6 (Γ : Gl) (k so : Int) (nm : ByteArray) (ls : List ByteArray) (l : List Tp) (h9 : k ≠ 9) (h8 : k ≠ 8) (hls : ls.length ≤ 6) (ih : ∀ x ∈ l,AddS Γ x) : AddS Γ (.mk k so nm ls l):=by
 intro ns av L hna hz hL hc
 have hll:=Tp.ds_len l
 obtain ⟨L1,hL1⟩ : ∃ L1,L ++ [(⟨k,so,ls,[]⟩ : Nd)] = L1:=⟨_,rfl⟩
 have e : qh9 (.mk k so nm ls l) ns av L = ((L.length : Int),(qg3 l ns av L1).2.set L.length ⟨k,so,ls,(qg3 l ns av L1).1⟩):=by
  unfold qh9
  rw [if_neg h9,if_neg h8,hL1]
 rw [e]
 clear e
 simp only [Tp.size] at hz hL
 have hL1n : L1.length = L.length + 1:=by rw [← hL1];simp
 have hm1 : L.map Nd.d ++ [.agg [iD k,iD so,.slc (ls.map sD),.slc []]] = L1.map Nd.d:=by rw [← hL1];simp [Nd.d]
 have hg1 : L1[L.length]? = some ⟨k,so,ls,[]⟩:=by rw [← hL1];simp
 have hcl : ∀ x ∈ l,clT x ns:=by
  unfold clT at hc
  rw [if_neg h8] at hc
  exact vt7 hc.2
 clear hL1
 have hcS:=vd2 Γ ls (by omega)
 have hn1 : (L.length + 1) * 64 ≤ 140737488355328:=by omega
 have hn2 : L.length + 1 ≤ maxLen:=by unfold maxLen;omega
 have g9 : (k == 9) = false:=by simpa using h9
 have g8 : (k == 8) = false:=by simpa using h8
 simp only [Tp.d]
 refine qe0 (N:=106) Tryd.func45 rfl (by decide) rfl rfl (by simp) (fun C h0=>?_)
 simp only [vg9]
 repeat' (first|(with_reducible apply zz1)|((with_reducible apply zz2);rfl;intro K' hK';simp only [WA,simprocAttr,g9,g8,za];(repeat (constructor;focus (clear hK';intros;simp_all;done)));(try (apply hK';clear hK' K')))|((with_reducible apply zz3);rfl;all_goals (intro h;try exact absurd h (by decide))))
 -- TRACE
 (with_reducible refine qa6 ?_ ?_ ?_ (⟨⟨[(11,.slc (ls.map sD))],[]⟩,[],[],[],[]⟩) _ rfl (fun K' hK' gops fin hgops hfin=>?_)
  · kernel_rfl
  · rfl
  · rfl
  repeat' first
   | (refine qa9 rfl trivial (by simp only [WA,simprocAttr,UX,UA];rfl) (by simp only [zf,zh];rfl) (by simp only [zn2];rfl) ?_)
   | (refine qa8 rfl rfl trivial (by simp only [WA,simprocAttr,UX,UA,hcS,hn1,hn2,hm1,za ];rfl) ?_ (by simp only [WA,simprocAttr,UX,UA];rfl) (by simp only [WA,simprocAttr,UX,UA];rfl) (by simp only [zf,zh];rfl) (by simp only [zn2];rfl) ?_;focus (first | trivial | ((repeat' constructor) <;> first | trivial | assumption | (clear hK' hfin hgops;intros;simp_all;done))))
  (refine qb5 (by subst hfin;kernel_rfl) ?_)
  clear hfin hgops fin gops
  (try (apply hK';clear hK' K')))
 refine qo9 ?_
 refine ql8 ?_
 (with_reducible refine qg2 ?_ (fun K' hK'=>?_)
  · rfl
  simp only [WA,simprocAttr]
  (repeat (constructor;focus (clear hK';intros;simp_all;done))))
 refine hK' _ _ ?_
 clear hK' K'
 refine qo9 ?_
 refine qm9 11 30 1 rfl rfl (by decide) ?_
 simp only [WA,simprocAttr]
 repeat' (first|(with_reducible apply zz1)|((with_reducible apply zz2);rfl;intro K' hK';simp only [WA,simprocAttr,hll];(repeat (constructor;focus (clear hK';intros;simp_all;done)));(try (apply hK';clear hK' K')))|((with_reducible apply zz3);rfl;all_goals (intro h;try exact absurd h (by decide))))
 refine qd3 (α := Nat × List Int × List Nd) (fun q=>[(0,.ref 0 0),(2,.d (.slc (ns.map sD))),(3,.d (.slc (av.map iD))),(10,.d (iD L.length)),(11,.own 30),(82,.d (.slc (Tp.ds l))),(83,.d (iD l.length)),(84,.d (iD q.1))]) (fun q=>[(0,.cells [.own 1]),(1,.row 4 (q.2.2.map Nd.d)),(30,.row 1 (q.2.1.map iD))])
  (fun q=>q.1 ≤ l.length ∧ qg3 (l.take q.1) ns av L1 = q.2) (fun q=>l.length - q.1) (0,[],L1) ⟨Nat.zero_le _,by simp [qg3]⟩ (by refine qa3 h0 ?_ ?_ ?_ <;> simp only [US,WA,simprocAttr,hll]) (fun q hq=>?_)
 obtain ⟨j,to,L2⟩:=q
 obtain ⟨hj,hq⟩:=hq
 simp only at hj hq
 have hto : to.length = j:=by
  have:=vh5 (l.take j) ns av L1
  rw [hq] at this
  simp only [List.length_take] at this
  omega
 have hsz : Tp.sizes (l.take j) + Tp.sizes (l.drop j) = Tp.sizes l:=by rw [← Tp.sizes_app,List.take_append_drop]
 have hlen2:=qk1 (l.take j) ns av L1
 rw [hq] at hlen2
 simp only at hlen2
 have hb0 : (0 : Int) ≤ (j : Int):=by omega
 have hlL : l.length ≤ Tp.sizes l:=Tp.sizes_len l
 by_cases hlt : j < l.length
 · obtain ⟨x,hx⟩ : ∃ x,l[j]? = some x:=⟨l[j],by simp [hlt]⟩
   have hxm:=List.mem_of_getElem? hx
   have hget:=Tp.ds_get l j x hx
   have hb1 : (j : Int) < (l.length : Int):=by omega
   have hw3 : IntKind.i64.wrap ((j : Int) + 1) = ((j + 1 : Nat) : Int):=by rw [qd7 (by omega) (by omega)];omega
   have hd : l.drop j = x :: l.drop (j + 1):=by
    obtain ⟨h1,h2⟩:=List.getElem?_eq_some_iff.1 hx
    rw [List.drop_eq_getElem_cons h1,h2]
   have htk : l.take (j + 1) = l.take j ++ [x]:=by
    rw [List.take_add_one,hx];rfl
   have hsx : Tp.sizes (l.take j) + x.size ≤ Tp.sizes l:=by rw [← hsz,hd];simp only [Tp.sizes];omega
   have hcall:=ih x hxm ns av L2 hna (by omega) (by omega) (hcl x hxm)
   have hnx : qg3 (l.take (j + 1)) ns av L1 = (to ++ [(qh9 x ns av L2).1],(qh9 x ns av L2).2):=by
    rw [htk,xe5,hq]
    simp [qg3]
   obtain ⟨n1,L3,hse⟩ : ∃ n1 L3,qh9 x ns av L2 = (n1,L3):=⟨_,_,rfl⟩
   rw [hse] at hcall hnx
   simp only at hcall hnx
   have hm3 : to.map iD ++ [iD n1] = (to ++ [n1]).map iD:=by simp
   have hn3 : (to.length + 1) * 8 ≤ 140737488355328:=by omega
   have hn4 : to.length + 1 ≤ maxLen:=by unfold maxLen;omega
   obtain ⟨k',so',nm',ls',l'⟩:=x
   simp only [Tp.d] at hget hcall
   repeat' (first|(with_reducible apply zz1)|((with_reducible apply zz2);rfl;intro K' hK';simp only [WA,simprocAttr,ze,hget,hll,hb0,hb1];(repeat (constructor;focus (clear hK';intros;simp_all;done)));(try (apply hK';clear hK' K')))|((with_reducible apply zz3);rfl;all_goals (intro h;try exact absurd h (by decide))))
   refine qm7 rfl (by simp only [UA,WA,simprocAttr]) (hcall ) ?_
   simp only [WA,simprocAttr,UM,  hn3,hn4,za,hm3,ze]
   (try (apply hK';clear hK' K'))
   repeat' (first|(with_reducible apply zz1)|((with_reducible apply zz2);rfl;intro K' hK';simp only [WA,simprocAttr,hw3];(repeat (constructor;focus (clear hK';intros;simp_all;done)));(try (apply hK';clear hK' K')))|((with_reducible apply zz3);rfl;all_goals (intro h;try exact absurd h (by decide))))
   refine ⟨(j + 1,to ++ [n1],L3),⟨(by show j + 1 ≤ l.length;omega),hnx⟩,(by show l.length - (j + 1) < l.length - j;omega),by refine qa3 h0 ?_ ?_ ?_ <;> simp only [US,WA,simprocAttr]⟩
 · have hb1 : ¬ (j : Int) < (l.length : Int):=by omega
   rw [List.take_of_length_le (by omega)] at hq
   have hg2 : L2[L.length]? = some ⟨k,so,ls,[]⟩:=by
    rw [← hg1]
    have:=qn8 l ns av L1 L.length (by omega)
    rw [hq] at this
    exact this
   rw [hq]
   simp only
   have hgd : (L2.map Nd.d).getD L.length default = .agg [iD k,iD so,.slc (ls.map sD),.slc []]:=by simp [zb,hg2,Nd.d]
   have hset : (L2.map Nd.d).set L.length (.agg [iD k,iD so,.slc (ls.map sD),.slc (to.map iD)]) = (L2.set L.length ⟨k,so,ls,to⟩).map Nd.d:=by
    rw [List.map_set];rfl
   have hb2 : (L.length : Int) < (L2.length : Int):=by omega
   have hb3 : (0 : Int) ≤ (L.length : Int):=by omega
   repeat' (first|(with_reducible apply zz1)|((with_reducible apply zz2);rfl;intro K' hK';simp only [WA,simprocAttr,hb1];(repeat (constructor;focus (clear hK';intros;simp_all;done)));(try (apply hK';clear hK' K')))|((with_reducible apply zz3);rfl;all_goals (intro h;try exact absurd h (by decide))))
   refine xl0 [30] h0 (by simp only [Option.isSome_some,UF,WA,simprocAttr]) ?_
   simp only [WA,simprocAttr,UF]
   refine qr0 8 rfl ?_
   simp only [WA,simprocAttr,xw6,  ze,za,hgd,hb2,hb3]
   (repeat (constructor;focus (clear hK';intros;simp_all;done)))
   refine qt6 rfl (by simp only [WA,simprocAttr,qj8,xx6,xk0,Option.map_some,hgd,za,hset];rfl) ?_ ?_
   · first | trivial | ((repeat' constructor) <;> first | trivial | assumption | (clear hK';intros;simp_all;done))
   simp only [WA,simprocAttr,hgd,za,hset]
   (repeat (constructor;focus (clear hK';intros;simp_all;done)))
   (try (apply hK';clear hK' K'))
   repeat' (first|(with_reducible apply zz1)|((with_reducible apply zz2);rfl;intro K' hK';simp only [WA,simprocAttr];(repeat (constructor;focus (clear hK';intros;simp_all;done)));(try (apply hK';clear hK' K')))|((with_reducible apply zz3);rfl;all_goals (intro h;try exact absurd h (by decide))))
   simp only [qf8,qd5,qa2,qd6,US,WA,simprocAttr,h0]
theorem add_all (Γ : Gl) {x : Tp} (h : OkT x) : AddS Γ x:=by
 induction h with
 | nil=>exact vi6 Γ 1 0 noB [] [] (by decide) (by decide) (by simp) (fun x hx=>by cases hx)
 | pass k so x hk h1 h3 hx ih=>exact vi6 Γ k so noB [] [x] (by omega) (by omega) (by simp) (fun y hy=>by
  rcases List.mem_cons.1 hy with rfl | hy
  · exact ih
  · cases hy)
 | give k x y hk hx hy ih1 ih2=>exact vi6 Γ k 0 noB [] [x,y] (by omega) (by omega) (by simp) (fun z hz=>by
  rcases List.mem_cons.1 hz with rfl | hz
  · exact ih1
  rcases List.mem_cons.1 hz with rfl | hz
  · exact ih2
  · cases hz)
 | pick k ls l hk hl hn h ih=>exact vi6 Γ k 0 noB ls l (by omega) (by omega) (ql6 hl) ih
 | bind nm x hn hx ih=>exact add_rec Γ 0 nm x ih
 | var nm hn=>exact add_var Γ nm
end Go.Proofs.YtgecnlcbdbaneaaDoor
