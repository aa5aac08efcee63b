/- Types that are below each other do the same. -/
import Derived.Test.YtgecnlcbdbaneaaDoorHQ2
import Derived.Test.YtgecnlcbdbaneaaDoorH14
set_option linter.unusedVariables false
set_option linter.unusedSimpArgs false
namespace Go.Proofs.YtgecnlcbdbaneaaDoor
open Go.RowKit Go.Sw

theorem less_irr : ∀ a : List UInt8,Op.bytesLess a a = false
 | []=>rfl
 | x :: a=>by
  unfold Op.bytesLess
  rw [less_irr a]
  simp
theorem less_trans : ∀ a b c : List UInt8,Op.bytesLess a b = true → Op.bytesLess b c = true → Op.bytesLess a c = true
 | _,[],_,h,_=>by simp [Op.bytesLess] at h
 | _,_ :: _,[],_,h=>by simp [Op.bytesLess] at h
 | [],_ :: _,_ :: _,_,_=>by simp [Op.bytesLess]
 | x :: a,y :: b,z :: c,h1,h2=>by
  simp only [Op.bytesLess,Bool.or_eq_true,decide_eq_true_iff,Bool.and_eq_true,beq_iff_eq] at h1 h2 ⊢
  rcases h1 with h1 | ⟨h1,h3⟩ <;> rcases h2 with h2 | ⟨h2,h4⟩
  · exact .inl (UInt8.lt_trans h1 h2)
  · exact .inl (h2 ▸ h1)
  · exact .inl (h1 ▸ h2)
  · exact .inr ⟨h1.trans h2,less_trans a b c h3 h4⟩
theorem less_total : ∀ a b : List UInt8,Op.bytesLess a b = true ∨ a = b ∨ Op.bytesLess b a = true
 | [],[]=>.inr (.inl rfl)
 | [],_ :: _=>.inl rfl
 | _ :: _,[]=>.inr (.inr rfl)
 | x :: a,y :: b=>by
  simp only [Op.bytesLess,Bool.or_eq_true,decide_eq_true_iff,Bool.and_eq_true,beq_iff_eq]
  by_cases h1 : x < y
  · exact .inl (.inl h1)
  by_cases h2 : y < x
  · exact .inr (.inr (.inl h2))
  have e : x = y:=UInt8.le_antisymm (UInt8.not_lt.1 h2) (UInt8.not_lt.1 h1)
  subst e
  rcases less_total a b with h | h | h
  · exact .inl (.inr ⟨rfl,h⟩)
  · exact .inr (.inl (by rw [h]))
  · exact .inr (.inr (.inr ⟨rfl,h⟩))
def ltB (a b : ByteArray) : Prop:=Op.bytesLess a.toList b.toList = true
theorem labGo_sort : ∀ (l : List ByteArray) (p : ByteArray),labGo p l = true → (∀ x ∈ l,ltB p x) ∧ l.Pairwise ltB
 | [],p,_=>⟨fun x hx=>(by cases hx),List.Pairwise.nil⟩
 | s :: l,p,h=>by
  unfold labGo at h
  split at h
  rotate_left
  · cases h
  split at h
  · cases h
  rename_i h1 h2
  have ih:=labGo_sort l s h
  have hps : ltB p s:=by
   unfold ltB
   rcases less_total p.toList s.toList with h | h | h
   · exact h
   · exfalso;apply h2;unfold leB;rw [h];simp
   · exfalso;apply h2;unfold leB;rw [h];rfl
  refine ⟨fun x hx=>?_,List.pairwise_cons.2 ⟨ih.1,ih.2⟩⟩
  rcases List.mem_cons.1 hx with rfl | hx
  · exact hps
  · exact less_trans _ _ _ hps (ih.1 x hx)
theorem labels_sort {ls : List ByteArray} (h : labelsB ls = true) : ls.Pairwise ltB:=by
 unfold labelsB at h
 split at h
 · cases h
 split at h
 · cases h
 cases ls with
 | nil=>exact List.Pairwise.nil
 | cons s l =>
  simp only [labAll] at h
  split at h
  · have:=labGo_sort l s h
    exact List.pairwise_cons.2 this
  · cases h
theorem lt_irr (a : ByteArray) : ¬ ltB a a:=by unfold ltB;rw [less_irr];decide
theorem sort_ext : ∀ {l l' : List ByteArray},l.Pairwise ltB → l'.Pairwise ltB → (∀ x ∈ l,x ∈ l') → (∀ x ∈ l',x ∈ l) → l = l'
 | [],[],_,_,_,_=>rfl
 | [],y :: _,_,_,_,h=>by cases h y (by simp)
 | x :: _,[],_,_,h,_=>by cases h x (by simp)
 | x :: l,y :: l',h1,h2,h3,h4=>by
  have p:=List.pairwise_cons.1 h1
  have q:=List.pairwise_cons.1 h2
  have e : x = y:=by
   rcases List.mem_cons.1 (h3 x (by simp)) with e | hx
   · exact e
   · rcases List.mem_cons.1 (h4 y (by simp)) with e | hy
     · exact e.symm
     · exact absurd (less_trans _ _ _ (p.1 y hy) (q.1 x hx)) (lt_irr x)
  subst e
  rw [sort_ext p.2 q.2 (fun z hz=>by
   rcases List.mem_cons.1 (h3 z (by simp [hz])) with e | h
   · exact absurd (e ▸ p.1 z hz) (lt_irr z)
   · exact h) (fun z hz=>by
   rcases List.mem_cons.1 (h4 z (by simp [hz])) with e | h
   · exact absurd (e ▸ q.1 z hz) (lt_irr z)
   · exact h)]
theorem sort_nodup {l : List ByteArray} (h : l.Pairwise ltB) : l.Nodup:=h.imp fun {a b} hab e=>by subst e;exact lt_irr _ hab
theorem ix_at : ∀ {l : List ByteArray} {i j : Nat} {x : ByteArray},l.Nodup → l[i]? = some x → idxS x.toList l j = ((j + i : Nat) : Int)
 | y :: l,0,j,x,_,h=>by
  simp at h
  subst h
  simp [idxS]
 | y :: l,i + 1,j,x,hn,h=>by
  have h' : l[i]? = some x:=by simpa using h
  have hne : ¬ x.toList = y.toList:=fun e=>by
   have:=tl_inj e
   subst this
   exact (List.nodup_cons.1 hn).1 (List.mem_of_getElem? h')
  unfold idxS
  rw [if_neg hne,ix_at (List.nodup_cons.1 hn).2 h',show j + 1 + i = j + (i + 1) by omega]
theorem ixL_at {l : List ByteArray} {i : Nat} {x : ByteArray} (hn : l.Nodup) (h : l[i]? = some x) : (ixL x l).toNat = i:=by
 unfold ixL
 rw [ix_at hn h];simp
def shp (k so : Int) (ls : List ByteArray) (m : Nat) : Prop :=
 (k = 1 ∧ so = 0 ∧ ls = [] ∧ m = 0) ∨ ((k = 2 ∨ k = 3) ∧ (1 ≤ so ∧ so ≤ 3) ∧ ls = [] ∧ m = 1) ∨ ((k = 4 ∨ k = 5) ∧ so = 0 ∧ ls = [] ∧ m = 2) ∨ ((k = 6 ∨ k = 7) ∧ so = 0 ∧ labelsB ls = true ∧ m = ls.length)
def wfT : Nat → Tr → Prop
 | 0,t=>t = .cut
 | _ + 1,.cut=>False
 | n + 1,.nd k so ls l=>shp k so ls l.length ∧ ∀ x ∈ l,wfT n x
theorem len1 {α : Type} {l : List α} (h : l.length = 1) : ∃ x,l = [x]:=by
 match l,h with
 | [x],_=>exact ⟨x,rfl⟩
theorem len2 {α : Type} {l : List α} (h : l.length = 2) : ∃ x y,l = [x,y]:=by
 match l,h with
 | [x,y],_=>exact ⟨x,y,rfl⟩
theorem kidL_at {ls : List ByteArray} {l : List Tr} {i : Nat} {x : ByteArray} {t : Tr} (hn : ls.Nodup) (h : ls[i]? = some x) (ht : l[i]? = some t) : kidL ls l x = t:=by
 unfold kidL kid
 rw [ixL_at hn h]
 simp [List.getD,ht]
theorem sub_anti : ∀ (n : Nat) (a b : Tr),wfT n a → wfT n b → subT n a b → subT n b a → a = b
 | 0,a,b,ha,hb,_,_=>by rw [ha,hb]
 | n + 1,.cut,_,ha,_,_,_=>ha.elim
 | n + 1,.nd _ _ _ _,.cut,_,hb,_,_=>hb.elim
 | n + 1, .nd k so ls l,.nd k' so' ls' l',ha,hb,h,h'=>by
  obtain ⟨rfl,rfl,h1,h2,h3,h4,h5⟩:=h
  obtain ⟨-, -,g1,g2,g3,g4,g5⟩:=h'
  obtain ⟨sa,wa⟩:=ha
  obtain ⟨sb,wb⟩:=hb
  have ih:=sub_anti n
  rcases sa with ⟨ek,es,el,em⟩ | ⟨ek,es,el,em⟩ | ⟨ek,es,el,em⟩ | ⟨ek,es,el,em⟩
  · rcases sb with ⟨fk,fs,fl,fm⟩ | ⟨fk,fs,fl,fm⟩ | ⟨fk,fs,fl,fm⟩ | ⟨fk,fs,fl,fm⟩ <;> try omega
    rw [el,fl,List.length_eq_zero_iff.1 em,List.length_eq_zero_iff.1 fm]
  · rcases sb with ⟨fk,fs,fl,fm⟩ | ⟨fk,fs,fl,fm⟩ | ⟨fk,fs,fl,fm⟩ | ⟨fk,fs,fl,fm⟩ <;> try omega
    obtain ⟨x,rfl⟩:=len1 em
    obtain ⟨y,rfl⟩:=len1 fm
    rw [el,fl,show x = y from ih x y (wa x (by simp)) (wb y (by simp)) (h1 ek) (g1 ek)]
  · rcases sb with ⟨fk,fs,fl,fm⟩ | ⟨fk,fs,fl,fm⟩ | ⟨fk,fs,fl,fm⟩ | ⟨fk,fs,fl,fm⟩ <;> try omega
    obtain ⟨x,x2,rfl⟩:=len2 em
    obtain ⟨y,y2,rfl⟩:=len2 fm
    have q : (subT n x y ∧ subT n y x) ∧ subT n x2 y2 ∧ subT n y2 x2:=by
     rcases ek with ek | ek
     · exact ⟨⟨(g2 ek).1,(h2 ek).1⟩,(h2 ek).2,(g2 ek).2⟩
     · exact ⟨⟨(h3 ek).1,(g3 ek).1⟩,(h3 ek).2,(g3 ek).2⟩
    rw [el,fl,show x = y from ih x y (wa x (by simp)) (wb y (by simp)) q.1.1 q.1.2,show x2 = y2 from ih x2 y2 (wa x2 (by simp)) (wb y2 (by simp)) q.2.1 q.2.2]
  · rcases sb with ⟨fk,fs,fl,fm⟩ | ⟨fk,fs,fl,fm⟩ | ⟨fk,fs,fl,fm⟩ | ⟨fk,fs,fl,fm⟩ <;> try omega
    have q : (∀ x ∈ ls,x ∈ ls' ∧ subT n (kidL ls l x) (kidL ls' l' x)) ∧ ∀ x ∈ ls',x ∈ ls ∧ subT n (kidL ls' l' x) (kidL ls l x):=by
     rcases ek with ek | ek
     · refine ⟨fun x hx=>?_,fun x hx=>?_⟩
       · have:=g4 ek x hx
         exact ⟨this.1,(h4 ek x this.1).2⟩
       · have:=h4 ek x hx
         exact ⟨this.1,(g4 ek x this.1).2⟩
     · exact ⟨h5 (by omega) (by omega) (by omega),g5 (by omega) (by omega) (by omega)⟩
    have e:=sort_ext (labels_sort el) (labels_sort fl) (fun x hx=>(q.1 x hx).1) (fun x hx=>(q.2 x hx).1)
    subst e
    have nd:=sort_nodup (labels_sort el)
    congr 1
    apply List.ext_getElem?
    intro i
    by_cases hi : i < ls.length
    · have e1:=List.getElem?_eq_getElem hi
      have e2:=List.getElem?_eq_getElem (show i < l.length by omega)
      have e3:=List.getElem?_eq_getElem (show i < l'.length by omega)
      have q1:=(q.1 _ (List.getElem_mem hi)).2
      have q2:=(q.2 _ (List.getElem_mem hi)).2
      rw [kidL_at nd e1 e2,kidL_at nd e1 e3] at q1 q2
      rw [e2,e3,ih _ _ (wa _ (List.getElem_mem _)) (wb _ (List.getElem_mem _)) q1 q2]
    · rw [List.getElem?_eq_none (by omega),List.getElem?_eq_none (by omega)]
def ShG (g : List Nd) : Prop := ∀ x ∈ g,shp x.k x.so x.ls x.to.length
theorem obs_wf {g : List Nd} (hg : ∀ n ∈ g,NdG g.length n) (hs : ShG g) : ∀ (n : Nat) (i : Int),0 ≤ i → i < (g.length : Int) → wfT n (obs g n i)
 | 0,_,_,_=>rfl
 | n + 1,i,h0,h1=>by
  have hm:=gAt_mem h0 h1
  refine ⟨by rw [List.length_map];exact hs _ hm,fun x hx=>?_⟩
  obtain ⟨t,ht,rfl⟩:=List.mem_map.1 hx
  have:=(hg _ hm).ok.r t ht
  exact obs_wf hg hs n t this.1 this.2
mutual
def shT : Tp → Prop
 | .mk k so nm ls l=>(k ≠ 9 → k ≠ 8 → shp k so ls l.length) ∧ shTs l
def shTs : List Tp → Prop
 | []=>True
 | x :: l=>shT x ∧ shTs l
end
theorem shTs_of {l : List Tp} (h : ∀ x ∈ l,shT x) : shTs l:=by
 induction l with
 | nil=>trivial
 | cons x l ih=>exact ⟨h x (by simp),ih fun y hy=>h y (by simp [hy])⟩
theorem ok_shT {x : Tp} (h : OkT x) : shT x:=by
 induction h with
 | nil=>exact ⟨fun _ _=>.inl ⟨rfl,rfl,rfl,rfl⟩,trivial⟩
 | pass k so x hk h1 h3 hx ih=>exact ⟨fun _ _=>.inr (.inl ⟨hk,⟨h1,h3⟩,rfl,rfl⟩),ih,trivial⟩
 | give k x y hk hx hy ih1 ih2=>exact ⟨fun _ _=>.inr (.inr (.inl ⟨hk,rfl,rfl,rfl⟩)),ih1,ih2,trivial⟩
 | pick k ls l hk hl hn h ih=>exact ⟨fun _ _=>.inr (.inr (.inr ⟨hk,rfl,hl,hn⟩)),shTs_of ih⟩
 | bind nm x hn hx ih=>exact ⟨fun _ h=>absurd rfl h,ih,trivial⟩
 | var nm hn=>exact ⟨fun h=>absurd rfl h,trivial⟩
mutual
theorem addT_shp : ∀ (x : Tp) (ns : List ByteArray) (av : List Int) (L : List Nd),shT x → ∀ (i : Nat) (n : Nd),L.length ≤ i → (addT x ns av L).2[i]? = some n → shp n.k n.so n.ls n.to.length
 | .mk k so nm ls l,ns,av,L,hs,i,n,hi,h=>by
  unfold shT at hs
  unfold addT at h
  split at h
  · simp only at h
    rw [List.getElem?_eq_none hi] at h;cases h
  split at h
  · cases l with
    | nil=>simp only [addF] at h;rw [List.getElem?_eq_none hi] at h;cases h
    | cons x l =>
     simp only [addF] at h
     exact addT_shp x _ _ L hs.2.1 i n hi h
  · rename_i h9 h8
    have hlen:=addTs_len l ns av (L ++ [⟨k,so,ls,[]⟩])
    simp only [List.length_append,List.length_cons,List.length_nil] at hlen
    simp only at h
    by_cases he : i = L.length
    · subst he
      rw [List.getElem?_set_self (by omega)] at h
      cases h
      simp only
      rw [addTs_to]
      exact hs.1 h9 h8
    · rw [List.getElem?_set_ne (Ne.symm he)] at h
      exact addTs_shp l ns av _ hs.2 i n (by simp;omega) h
theorem addTs_shp : ∀ (l : List Tp) (ns : List ByteArray) (av : List Int) (L : List Nd),shTs l → ∀ (i : Nat) (n : Nd),L.length ≤ i → (addTs l ns av L).2[i]? = some n → shp n.k n.so n.ls n.to.length
 | [],ns,av,L,hs,i,n,hi,h=>by
  simp only [addTs] at h
  rw [List.getElem?_eq_none hi] at h;cases h
 | x :: l,ns,av,L,hs,i,n,hi,h=>by
  unfold shTs at hs
  simp only [addTs] at h
  by_cases hi2 : i < (addT x ns av L).2.length
  · rw [addTs_keep l ns av _ i hi2] at h
    exact addT_shp x ns av L hs.1 i n hi h
  · exact addTs_shp l ns av _ hs.2 i n (by omega) h
end
def trT (x : Tp) (n : Nat) : Tr:=obs (rawP x) n 0
theorem raw_sh {x : Tp} (h : tCheck x = 0) : ShG (rawP x):=by
 intro n hn
 obtain ⟨i,hi,rfl⟩:=List.mem_iff_getElem.1 hn
 exact addT_shp x [] [] [] (ok_shT (ok_check h).1) i _ (Nat.zero_le _) (List.getElem?_eq_getElem hi)
theorem ofP_obs {x : Tp} (h : tCheck x = 0) (n : Nat) : obs (ofP x) n 0 = trT x n:=by
 obtain ⟨h1,h2,h3,h4,h5,h6⟩:=raw_good h
 unfold ofP
 rw [if_pos h]
 exact least_obs (g:=rawP x) h6 h4 n
end Go.Proofs.YtgecnlcbdbaneaaDoor
/- dual.Kind, graph.Check of a graph that is right; a symbolic walk. -/
-- TYPESA
namespace Go.Proofs.YtgecnlcbdbaneaaDoor
open Go.RowKit Go.Sw

def dKind (k : Int) : Int:=if k = 2 ∨ k = 4 ∨ k = 6 then k + 1 else if k = 3 ∨ k = 5 ∨ k = 7 then k - 1 else k
def nodeT (k so : Int) (ls : List ByteArray) (m : Nat) : Tp:=.mk k so noB ls (List.replicate m (.mk 1 0 noB [] []))
theorem tchks_ends : ∀ (m : Nat) (b : List ByteArray) (left : Int),(m : Int) ≤ left → (tchks (List.replicate m (.mk 1 0 noB [] [])) b left).1 = 0
 | 0,b,left,h=>by simp [tchks]
 | m + 1,b,left,h=>by
  have e : tchk (.mk 1 0 noB [] []) b left = (0,left - 1):=by
   unfold tchk
   have hs : shapedB (.mk 1 0 noB [] []) = true:=by decide +kernel
   rw [if_neg (by omega),hs,if_neg (by decide),if_neg (by decide),if_neg (by decide)]
   simp [tchks]
  rw [List.replicate_succ]
  unfold tchks
  rw [e]
  rw [if_neg (by simp)]
  exact tchks_ends m b _ (by simp only;omega)
theorem ds_rep : ∀ m : Nat,Tp.ds (List.replicate m (.mk 1 0 noB [] [])) = List.replicate m (.agg [iD 1,iD 0,sD noB,.slc [],.slc []])
 | 0=>rfl
 | m + 1=>by rw [List.replicate_succ,List.replicate_succ, ← ds_rep m];rfl
theorem shaped_of {k so : Int} {ls : List ByteArray} {l : List Tp} (h : shp k so ls l.length) : shapedB (.mk k so noB ls l) = true:=by
 have he : emptyB noB = true:=by decide +kernel
 unfold shapedB kindOf shapeB
 rcases h with ⟨rfl,rfl,rfl,hm⟩ | ⟨hk,⟨h1,h3⟩,rfl,hm⟩ | ⟨hk,rfl,rfl,hm⟩ | ⟨hk,rfl,hl,hm⟩
 · simp [hm,sortB,he]
 · rcases hk with rfl | rfl <;> simp [hm,sortB,he,h1,h3]
 · rcases hk with rfl | rfl <;> simp [hm,sortB,he]
 · rcases hk with rfl | rfl <;> simp [hm,sortB,he,hl]
theorem node_check {k so : Int} {ls : List ByteArray} {m : Nat} (h : shp k so ls m) : tCheck (nodeT k so ls m) = 0:=by
 have hm : m ≤ 6:=by
  rcases h with ⟨-, -, -,h⟩ | ⟨-, -, -,h⟩ | ⟨-, -, -,h⟩ | ⟨-, -,h1,h⟩
  · omega
  · omega
  · omega
  · have:=labels_len h1;omega
 have hk : k ≠ 9 ∧ k ≠ 8:=by
  rcases h with ⟨h, -⟩ | ⟨h, -⟩ | ⟨h, -⟩ | ⟨h, -⟩ <;> omega
 unfold tCheck nodeT
 unfold tchk
 rw [if_neg (by omega),shaped_of (by rw [List.length_replicate];exact h),if_neg (by decide),if_neg hk.1,if_neg hk.2]
 exact tchks_ends m _ _ (by show (m : Int) ≤ 60 - 1;omega)
set_option maxHeartbeats 8000000 in
set_option maxRecDepth 100000 in
theorem gcheck_fn (Γ : Gl) (g : List Nd) (h0g : 0 < g.length) (h2 : g.length ≤ 200) (hg : ∀ n ∈ g,NdG g.length n) (hs : ShG g) : DFn Tryd.prog Γ 50 [.slc (g.map Nd.d)] (iD 0):=by
 have g1 : ((g.length : Int) == 0) = false:=by rw [beq_eq_false_iff_ne];omega
 have g2 : ¬ (200 : Int) < (g.length : Int):=by omega
 refine fn_of_swp (N:=53) Tryd.func50 rfl (by decide) rfl rfl (by simp) (fun C h0=>?_)
 simp only [argE]
 repeat' (first|(with_reducible apply zz1)|((with_reducible refine zz4 ?_ ?_);rfl)|((with_reducible refine zz2 ?_ (fun K' hK'=>?_));rfl;simp only [WA,simprocAttr,List.length_map,g1,g2];(repeat (refine And.intro ?_ ?_;focus (clear hK';intros;simp_all;done)));(try (refine hK' _ _ ?_;clear hK' K')))|((with_reducible refine zz3 ?_ ?_);rfl;refine ⟨_,rfl,fun h=>?_,fun h=>?_⟩ <;> try exact absurd h (by decide)))
 refine swp_loop (α := Nat) (fun i=>[(0,.d (.slc (g.map Nd.d))),(14,.d (.slc (g.map Nd.d))),(15,.d (iD g.length)),(16,.d (iD i))]) (fun _=>[])
  (fun i=>i ≤ g.length) (fun i=>g.length - i) 0 (Nat.zero_le _) (by refine sub_of h0 ?_ ?_ ?_ <;> simp only [US,WA,simprocAttr,List.length_map]) (fun i hi=>?_)
 have hi : i ≤ g.length:=hi
 have hb0 : (0 : Int) ≤ (i : Int):=by omega
 by_cases hlt : i < g.length
 · obtain ⟨x,hx⟩ : ∃ x,g[i]? = some x:=⟨g[i],by simp [hlt]⟩
   have hxm:=List.mem_of_getElem? hx
   have hget : (g.map Nd.d).getD i default = x.d:=by simp [List.getD,hx]
   have hok:=(hg x hxm).ok
   have hsx:=hs x hxm
   have hto:=hok.to
   have hr:=hok.r
   have hck:=TCheck_fn Γ (nodeT x.k x.so x.ls x.to.length)
   rw [node_check hsx] at hck
   have hb1 : (i : Int) < (g.length : Int):=by omega
   have hw3 : IntKind.i64.wrap ((i : Int) + 1) = ((i + 1 : Nat) : Int):=by rw [wrap_in (by omega) (by omega)];omega
   obtain ⟨k,so,ls,to⟩:=x
   simp only [Nd.d] at hget hto hr hck
   simp only [nodeT,Tp.d,ds_rep] at hck
   repeat' (first|(with_reducible apply zz1)|((with_reducible refine zz4 ?_ ?_);rfl)|((with_reducible refine zz2 ?_ (fun K' hK'=>?_));rfl;simp only [WA,simprocAttr,Int.toNat_natCast,hget,List.length_map,hb0,hb1];(repeat (refine And.intro ?_ ?_;focus (clear hK';intros;simp_all;done)));(try (refine hK' _ _ ?_;clear hK' K')))|((with_reducible refine zz3 ?_ ?_);rfl;refine ⟨_,rfl,fun h=>?_,fun h=>?_⟩ <;> try exact absurd h (by decide)))
   refine swp_nilB 1 4 2 5 rfl rfl rfl (by decide) ?_
   simp only [WA,simprocAttr]
   refine swp_loop (α := Nat) (fun j=>[(0,.d (.slc (g.map Nd.d))),(14,.d (.slc (g.map Nd.d))),(15,.d (iD g.length)),(16,.d (iD i)),(5,.ref 1 0),(28,.d (.slc (to.map iD))),(29,.d (iD to.length)),(30,.d (iD j))])
    (fun j=>[(1,.cells [.d (iD k),.d (iD so),.d (sD noB),.d (.slc (ls.map sD)),.own 2]),(2,.row 5 (List.replicate j (.agg [iD 1,iD 0,sD noB,.slc [],.slc []])))])
    (fun j=>j ≤ to.length) (fun j=>to.length - j) 0 (Nat.zero_le _) (by refine sub_of h0 ?_ ?_ ?_ <;> simp only [US,WA,simprocAttr,List.replicate_zero]) (fun j hj=>?_)
   have hj : j ≤ to.length:=hj
   have hj0 : (0 : Int) ≤ (j : Int):=by omega
   by_cases hjl : j < to.length
   · obtain ⟨y,hy⟩ : ∃ y,to[j]? = some y:=⟨to[j],by simp [hjl]⟩
     have hyr:=hr y (List.mem_of_getElem? hy)
     have hyg : (to.map iD).getD j default = iD y:=by simp [List.getD,hy]
     have hj1 : (j : Int) < (to.length : Int):=by omega
     have hy0 : ¬ y < 0:=by omega
     have hy1 : ¬ (g.length : Int) ≤ y:=by omega
     have hw2 : IntKind.i64.wrap ((j : Int) + 1) = ((j + 1 : Nat) : Int):=by rw [wrap_in (by omega) (by omega)];omega
     have hm : List.replicate j (D.agg [iD 1,iD 0,sD noB,.slc [],.slc []]) ++ [.agg [iD 1,iD 0,sD noB,.slc [],.slc []]] = List.replicate (j + 1) (.agg [iD 1,iD 0,sD noB,.slc [],.slc []]):=List.replicate_succ'.symm
     have hn3 : (j + 1) * 80 ≤ 140737488355328:=by omega
     have hn4 : j + 1 ≤ maxLen:=by unfold maxLen;omega
     repeat' (first|(with_reducible apply zz1)|((with_reducible refine zz4 ?_ ?_);rfl)|((with_reducible refine zz2 ?_ (fun K' hK'=>?_));rfl;simp only [WA,simprocAttr,Int.toNat_natCast,hyg,hj0,hj1,hy0,hy1,hn3,hn4,hm,hw2,List.length_replicate,List.length_map,Bool.not_true,Bool.not_false,cond_true,cond_false];(repeat (refine And.intro ?_ ?_;focus (clear hK';intros;simp_all;done)));(try (refine hK' _ _ ?_;clear hK' K')))|((with_reducible refine zz3 ?_ ?_);rfl;refine ⟨_,rfl,fun h=>?_,fun h=>?_⟩ <;> try exact absurd h (by decide)))
     refine ⟨j + 1,(by show j + 1 ≤ to.length;omega),(by show to.length - (j + 1) < to.length - j;omega),by refine sub_of h0 ?_ ?_ ?_ <;> simp only [US,WA,simprocAttr]⟩
   · have hj1 : ¬ (j : Int) < (to.length : Int):=by omega
     have hje : j = to.length:=by omega
     subst hje
     refine swp_frz [2] h0 (by simp only [Option.isSome_some,UF,WA,simprocAttr]) ?_
     simp only [WA,simprocAttr,UF]
     repeat' (first|(with_reducible apply zz1)|((with_reducible refine zz4 ?_ ?_);rfl)|((with_reducible refine zz2 ?_ (fun K' hK'=>?_));rfl;simp only [WA,simprocAttr,hj1];(repeat (refine And.intro ?_ ?_;focus (clear hK';intros;simp_all;done)));(try (refine hK' _ _ ?_;clear hK' K')))|((with_reducible refine zz3 ?_ ?_);rfl;refine ⟨_,rfl,fun h=>?_,fun h=>?_⟩ <;> try exact absurd h (by decide)))
     refine stop_callF rfl (by simp only [WA,simprocAttr]) rfl rfl (hck) ?_
     simp only [WA,simprocAttr,inX,dropS,bne_self_eq_false]
     (repeat (refine And.intro ?_ ?_;focus (clear hK';intros;simp_all;done)))
     (try (refine hK' _ _ ?_;clear hK' K'))
     repeat' (first|(with_reducible apply zz1)|((with_reducible refine zz4 ?_ ?_);rfl)|((with_reducible refine zz2 ?_ (fun K' hK'=>?_));rfl;simp only [WA,simprocAttr,hw3];(repeat (refine And.intro ?_ ?_;focus (clear hK';intros;simp_all;done)));(try (refine hK' _ _ ?_;clear hK' K')))|((with_reducible refine zz3 ?_ ?_);rfl;refine ⟨_,rfl,fun h=>?_,fun h=>?_⟩ <;> try exact absurd h (by decide)))
     refine ⟨i + 1,(by show i + 1 ≤ g.length;omega),(by show g.length - (i + 1) < g.length - i;omega),by refine sub_of h0 ?_ ?_ ?_ <;> simp only [US,WA,simprocAttr]⟩
 · have hb1 : ¬ (i : Int) < (g.length : Int):=by omega
   repeat' (first|(with_reducible apply zz1)|((with_reducible refine zz4 ?_ ?_);rfl)|((with_reducible refine zz2 ?_ (fun K' hK'=>?_));rfl;simp only [WA,simprocAttr,hb1];(repeat (refine And.intro ?_ ?_;focus (clear hK';intros;simp_all;done)));(try (refine hK' _ _ ?_;clear hK' K')))|((with_reducible refine zz3 ?_ ?_);rfl;refine ⟨_,rfl,fun h=>?_,fun h=>?_⟩ <;> try exact absurd h (by decide)))
   simp only [Kret,retL,retOne,oneV,WA,simprocAttr]
end Go.Proofs.YtgecnlcbdbaneaaDoor
