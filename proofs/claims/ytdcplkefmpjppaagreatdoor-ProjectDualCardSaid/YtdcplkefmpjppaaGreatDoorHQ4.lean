/- Types that are below each other do the same. -/
import Derived.Test.YtdcplkefmpjppaaGreatDoorHQ2
import Derived.Test.YtdcplkefmpjppaaGreatDoorH14
set_option linter.unusedVariables false
set_option linter.unusedSimpArgs false
namespace Go.Proofs.YtdcplkefmpjppaaGreatDoor
open Go.RowKit Go.Sw

theorem less_irr : ∀ a : List UInt8,Op.bytesLess a a = false
 | []=>rfl
 | x :: a=>by
  unfold Op.bytesLess
  rw [less_irr a]
  simp
theorem less_trans : ∀ a b c : List UInt8,Op.bytesLess a b = true → Op.bytesLess b c = true → Op.bytesLess a c = true
 | _,[],_,h,_=>by simp [Op.bytesLess] at h
 | _,_ :: _,[],_,h=>by simp [Op.bytesLess] at h
 | [],_ :: _,_ :: _,_,_=>by simp [Op.bytesLess]
 | x :: a,y :: b,z :: c,h1,h2=>by
  simp only [Op.bytesLess,Bool.or_eq_true,decide_eq_true_iff,Bool.and_eq_true,beq_iff_eq] at h1 h2 ⊢
  rcases h1 with h1 | ⟨h1,h3⟩ <;> rcases h2 with h2 | ⟨h2,h4⟩
  · exact .inl (UInt8.lt_trans h1 h2)
  · exact .inl (h2 ▸ h1)
  · exact .inl (h1 ▸ h2)
  · exact .inr ⟨h1.trans h2,less_trans a b c h3 h4⟩
theorem less_total : ∀ a b : List UInt8,Op.bytesLess a b = true ∨ a = b ∨ Op.bytesLess b a = true
 | [],[]=>.inr (.inl rfl)
 | [],_ :: _=>.inl rfl
 | _ :: _,[]=>.inr (.inr rfl)
 | x :: a,y :: b=>by
  simp only [Op.bytesLess,Bool.or_eq_true,decide_eq_true_iff,Bool.and_eq_true,beq_iff_eq]
  by_cases h1 : x < y
  · exact .inl (.inl h1)
  by_cases h2 : y < x
  · exact .inr (.inr (.inl h2))
  have e : x = y:=UInt8.le_antisymm (UInt8.not_lt.1 h2) (UInt8.not_lt.1 h1)
  subst e
  rcases less_total a b with h | h | h
  · exact .inl (.inr ⟨rfl,h⟩)
  · exact .inr (.inl (by rw [h]))
  · exact .inr (.inr (.inr ⟨rfl,h⟩))
def ltB (a b : ByteArray) : Prop:=Op.bytesLess a.toList b.toList = true
theorem labGo_sort : ∀ (l : List ByteArray) (p : ByteArray),labGo p l = true → (∀ x ∈ l,ltB p x) ∧ l.Pairwise ltB
 | [],p,_=>⟨fun x hx=>(by cases hx),List.Pairwise.nil⟩
 | s :: l,p,h=>by
  unfold labGo at h
  split at h
  rotate_left
  · cases h
  split at h
  · cases h
  rename_i h1 h2
  have ih:=labGo_sort l s h
  have hps : ltB p s:=by
   unfold ltB
   rcases less_total p.toList s.toList with h | h | h
   · exact h
   · exfalso;apply h2;unfold leB;rw [h];simp
   · exfalso;apply h2;unfold leB;rw [h];rfl
  refine ⟨fun x hx=>?_,List.pairwise_cons.2 ⟨ih.1,ih.2⟩⟩
  rcases List.mem_cons.1 hx with rfl | hx
  · exact hps
  · exact less_trans _ _ _ hps (ih.1 x hx)
theorem labels_sort {ls : List ByteArray} (h : labelsB ls = true) : ls.Pairwise ltB:=by
 unfold labelsB at h
 split at h
 · cases h
 split at h
 · cases h
 cases ls with
 | nil=>exact List.Pairwise.nil
 | cons s l =>
  simp only [labAll] at h
  split at h
  · have:=labGo_sort l s h
    exact List.pairwise_cons.2 this
  · cases h
theorem lt_irr (a : ByteArray) : ¬ ltB a a:=by unfold ltB;rw [less_irr];decide
theorem sort_ext : ∀ {l l' : List ByteArray},l.Pairwise ltB → l'.Pairwise ltB → (∀ x ∈ l,x ∈ l') → (∀ x ∈ l',x ∈ l) → l = l'
 | [],[],_,_,_,_=>rfl
 | [],y :: _,_,_,_,h=>by cases h y (by simp)
 | x :: _,[],_,_,h,_=>by cases h x (by simp)
 | x :: l,y :: l',h1,h2,h3,h4=>by
  have p:=List.pairwise_cons.1 h1
  have q:=List.pairwise_cons.1 h2
  have e : x = y:=by
   rcases List.mem_cons.1 (h3 x (by simp)) with e | hx
   · exact e
   · rcases List.mem_cons.1 (h4 y (by simp)) with e | hy
     · exact e.symm
     · exact absurd (less_trans _ _ _ (p.1 y hy) (q.1 x hx)) (lt_irr x)
  subst e
  rw [sort_ext p.2 q.2 (fun z hz=>by
   rcases List.mem_cons.1 (h3 z (by simp [hz])) with e | h
   · exact absurd (e ▸ p.1 z hz) (lt_irr z)
   · exact h) (fun z hz=>by
   rcases List.mem_cons.1 (h4 z (by simp [hz])) with e | h
   · exact absurd (e ▸ q.1 z hz) (lt_irr z)
   · exact h)]
theorem sort_nodup {l : List ByteArray} (h : l.Pairwise ltB) : l.Nodup:=h.imp fun {a b} hab e=>by subst e;exact lt_irr _ hab
def shp (k so : Int) (ls : List ByteArray) (m : Nat) : Prop :=
 (k = 1 ∧ so = 0 ∧ ls = [] ∧ m = 0) ∨ ((k = 2 ∨ k = 3) ∧ (1 ≤ so ∧ so ≤ 3) ∧ ls = [] ∧ m = 1) ∨ ((k = 4 ∨ k = 5) ∧ so = 0 ∧ ls = [] ∧ m = 2) ∨ ((k = 6 ∨ k = 7) ∧ so = 0 ∧ labelsB ls = true ∧ m = ls.length)
theorem len2 {α : Type} {l : List α} (h : l.length = 2) : ∃ x y,l = [x,y]:=by
 match l,h with
 | [x,y],_=>exact ⟨x,y,rfl⟩
def ShG (g : List Nd) : Prop := ∀ x ∈ g,shp x.k x.so x.ls x.to.length
mutual
def shT : Tp → Prop
 | .mk k so nm ls l=>(k ≠ 9 → k ≠ 8 → shp k so ls l.length) ∧ shTs l
def shTs : List Tp → Prop
 | []=>True
 | x :: l=>shT x ∧ shTs l
end
theorem shTs_of {l : List Tp} (h : ∀ x ∈ l,shT x) : shTs l:=by
 induction l with
 | nil=>trivial
 | cons x l ih=>exact ⟨h x (by simp),ih fun y hy=>h y (by simp [hy])⟩
theorem ok_shT {x : Tp} (h : OkT x) : shT x:=by
 induction h with
 | nil=>exact ⟨fun _ _=>.inl ⟨rfl,rfl,rfl,rfl⟩,trivial⟩
 | pass k so x hk h1 h3 hx ih=>exact ⟨fun _ _=>.inr (.inl ⟨hk,⟨h1,h3⟩,rfl,rfl⟩),ih,trivial⟩
 | give k x y hk hx hy ih1 ih2=>exact ⟨fun _ _=>.inr (.inr (.inl ⟨hk,rfl,rfl,rfl⟩)),ih1,ih2,trivial⟩
 | pick k ls l hk hl hn h ih=>exact ⟨fun _ _=>.inr (.inr (.inr ⟨hk,rfl,hl,hn⟩)),shTs_of ih⟩
 | bind nm x hn hx ih=>exact ⟨fun _ h=>absurd rfl h,ih,trivial⟩
 | var nm hn=>exact ⟨fun h=>absurd rfl h,trivial⟩
mutual
theorem addT_shp : ∀ (x : Tp) (ns : List ByteArray) (av : List Int) (L : List Nd),shT x → ∀ (i : Nat) (n : Nd),L.length ≤ i → (addT x ns av L).2[i]? = some n → shp n.k n.so n.ls n.to.length
 | .mk k so nm ls l,ns,av,L,hs,i,n,hi,h=>by
  unfold shT at hs
  unfold addT at h
  split at h
  · simp only at h
    rw [List.getElem?_eq_none hi] at h;cases h
  split at h
  · cases l with
    | nil=>simp only [addF] at h;rw [List.getElem?_eq_none hi] at h;cases h
    | cons x l =>
     simp only [addF] at h
     exact addT_shp x _ _ L hs.2.1 i n hi h
  · rename_i h9 h8
    have hlen:=addTs_len l ns av (L ++ [⟨k,so,ls,[]⟩])
    simp only [List.length_append,List.length_cons,List.length_nil] at hlen
    simp only at h
    by_cases he : i = L.length
    · subst he
      rw [List.getElem?_set_self (by omega)] at h
      cases h
      simp only
      rw [addTs_to]
      exact hs.1 h9 h8
    · rw [List.getElem?_set_ne (Ne.symm he)] at h
      exact addTs_shp l ns av _ hs.2 i n (by simp;omega) h
theorem addTs_shp : ∀ (l : List Tp) (ns : List ByteArray) (av : List Int) (L : List Nd),shTs l → ∀ (i : Nat) (n : Nd),L.length ≤ i → (addTs l ns av L).2[i]? = some n → shp n.k n.so n.ls n.to.length
 | [],ns,av,L,hs,i,n,hi,h=>by
  simp only [addTs] at h
  rw [List.getElem?_eq_none hi] at h;cases h
 | x :: l,ns,av,L,hs,i,n,hi,h=>by
  unfold shTs at hs
  simp only [addTs] at h
  by_cases hi2 : i < (addT x ns av L).2.length
  · rw [addTs_keep l ns av _ i hi2] at h
    exact addT_shp x ns av L hs.1 i n hi h
  · exact addTs_shp l ns av _ hs.2 i n (by omega) h
end
def trT (x : Tp) (n : Nat) : Tr:=obs (rawP x) n 0
theorem raw_sh {x : Tp} (h : tCheck x = 0) : ShG (rawP x):=by
 intro n hn
 obtain ⟨i,hi,rfl⟩:=List.mem_iff_getElem.1 hn
 exact addT_shp x [] [] [] (ok_shT (ok_check h).1) i _ (Nat.zero_le _) (List.getElem?_eq_getElem hi)
theorem ofP_obs {x : Tp} (h : tCheck x = 0) (n : Nat) : obs (ofP x) n 0 = trT x n:=by
 obtain ⟨h1,h2,h3,h4,h5,h6⟩:=raw_good h
 unfold ofP
 rw [if_pos h]
 exact least_obs (g:=rawP x) h6 h4 n
end Go.Proofs.YtdcplkefmpjppaaGreatDoor
/- dual.Kind, graph.Check of a graph that is right; a symbolic walk. -/
-- TYPESA
namespace Go.Proofs.YtdcplkefmpjppaaGreatDoor
open Go.RowKit Go.Sw

def dKind (k : Int) : Int:=if k = 2 ∨ k = 4 ∨ k = 6 then k + 1 else if k = 3 ∨ k = 5 ∨ k = 7 then k - 1 else k
set_option maxHeartbeats 4000000 in
set_option maxRecDepth 100000 in
theorem kind_fn (Γ : Gl) (k : Int) : DFn Tryz.prog Γ 120 [iD k] (iD (dKind k)):=by
 unfold dKind
 have w2 : IntKind.i64.wrap (2 + 1) = 3:=by decide
 have w4 : IntKind.i64.wrap (4 + 1) = 5:=by decide
 have w6 : IntKind.i64.wrap (6 + 1) = 7:=by decide
 have w3 : IntKind.i64.wrap (3 - 1) = 2:=by decide
 have w5 : IntKind.i64.wrap (5 - 1) = 4:=by decide
 have w7 : IntKind.i64.wrap (7 - 1) = 6:=by decide
 by_cases h : k = 2 ∨ k = 4 ∨ k = 6
 · rw [if_pos h]
   rcases h with rfl | rfl | rfl
   all_goals
    refine fn_of_swp (N:=17) Tryz.func120 rfl (by decide) rfl rfl (by simp) (fun C h0=>?_)
    simp only [argE]
    repeat' (first|(with_reducible apply zz1)|((with_reducible apply zz2);rfl;intro K' hK';simp only [WA,simprocAttr,Int.reduceBEq,w2,w4,w6];(repeat (constructor;focus (clear hK';intros;simp_all;done)));(try (apply hK';clear hK' K')))|((with_reducible apply zz3);rfl;all_goals (intro h;try exact absurd h (by decide))))
    simp only [Kret,retL,retOne,oneV,WA,simprocAttr]
    rfl
 · rw [if_neg h]
   simp only [not_or] at h
   obtain ⟨n2,n4,n6⟩:=h
   have g2 : (k == 2) = false:=by simpa using n2
   have g4 : (k == 4) = false:=by simpa using n4
   have g6 : (k == 6) = false:=by simpa using n6
   by_cases h : k = 3 ∨ k = 5 ∨ k = 7
   · rw [if_pos h]
     rcases h with rfl | rfl | rfl
     all_goals
      refine fn_of_swp (N:=17) Tryz.func120 rfl (by decide) rfl rfl (by simp) (fun C h0=>?_)
      simp only [argE]
      repeat' (first|(with_reducible apply zz1)|((with_reducible apply zz2);rfl;intro K' hK';simp only [WA,simprocAttr,Int.reduceBEq,w3,w5,w7];(repeat (constructor;focus (clear hK';intros;simp_all;done)));(try (apply hK';clear hK' K')))|((with_reducible apply zz3);rfl;all_goals (intro h;try exact absurd h (by decide))))
      simp only [Kret,retL,retOne,oneV,WA,simprocAttr]
      rfl
   · rw [if_neg h]
     simp only [not_or] at h
     obtain ⟨n3,n5,n7⟩:=h
     have g3 : (k == 3) = false:=by simpa using n3
     have g5 : (k == 5) = false:=by simpa using n5
     have g7 : (k == 7) = false:=by simpa using n7
     refine fn_of_swp (N:=17) Tryz.func120 rfl (by decide) rfl rfl (by simp) (fun C h0=>?_)
     simp only [argE]
     repeat' (first|(with_reducible apply zz1)|((with_reducible apply zz2);rfl;intro K' hK';simp only [WA,simprocAttr,g2,g3,g4,g5,g6,g7];(repeat (constructor;focus (clear hK';intros;simp_all;done)));(try (apply hK';clear hK' K')))|((with_reducible apply zz3);rfl;all_goals (intro h;try exact absurd h (by decide))))
     simp only [Kret,retL,retOne,oneV,WA,simprocAttr]
def nodeT (k so : Int) (ls : List ByteArray) (m : Nat) : Tp:=.mk k so noB ls (List.replicate m (.mk 1 0 noB [] []))
theorem tchks_ends : ∀ (m : Nat) (b : List ByteArray) (left : Int),(m : Int) ≤ left → (tchks (List.replicate m (.mk 1 0 noB [] [])) b left).1 = 0
 | 0,b,left,h=>by simp [tchks]
 | m + 1,b,left,h=>by
  have e : tchk (.mk 1 0 noB [] []) b left = (0,left - 1):=by
   unfold tchk
   have hs : shapedB (.mk 1 0 noB [] []) = true:=by decide +kernel
   rw [if_neg (by omega),hs,if_neg (by decide),if_neg (by decide),if_neg (by decide)]
   simp [tchks]
  rw [List.replicate_succ]
  unfold tchks
  rw [e]
  rw [if_neg (by simp)]
  exact tchks_ends m b _ (by simp only;omega)
theorem ds_rep : ∀ m : Nat,Tp.ds (List.replicate m (.mk 1 0 noB [] [])) = List.replicate m (.agg [iD 1,iD 0,sD noB,.slc [],.slc []])
 | 0=>rfl
 | m + 1=>by rw [List.replicate_succ,List.replicate_succ, ← ds_rep m];rfl
theorem shaped_of {k so : Int} {ls : List ByteArray} {l : List Tp} (h : shp k so ls l.length) : shapedB (.mk k so noB ls l) = true:=by
 have he : emptyB noB = true:=by decide +kernel
 unfold shapedB kindOf shapeB
 rcases h with ⟨rfl,rfl,rfl,hm⟩ | ⟨hk,⟨h1,h3⟩,rfl,hm⟩ | ⟨hk,rfl,rfl,hm⟩ | ⟨hk,rfl,hl,hm⟩
 · simp [hm,sortB,he]
 · rcases hk with rfl | rfl <;> simp [hm,sortB,he,h1,h3]
 · rcases hk with rfl | rfl <;> simp [hm,sortB,he]
 · rcases hk with rfl | rfl <;> simp [hm,sortB,he,hl]
theorem node_check {k so : Int} {ls : List ByteArray} {m : Nat} (h : shp k so ls m) : tCheck (nodeT k so ls m) = 0:=by
 have hm : m ≤ 6:=by
  rcases h with ⟨-, -, -,h⟩ | ⟨-, -, -,h⟩ | ⟨-, -, -,h⟩ | ⟨-, -,h1,h⟩
  · omega
  · omega
  · omega
  · have:=labels_len h1;omega
 have hk : k ≠ 9 ∧ k ≠ 8:=by
  rcases h with ⟨h, -⟩ | ⟨h, -⟩ | ⟨h, -⟩ | ⟨h, -⟩ <;> omega
 unfold tCheck nodeT
 unfold tchk
 rw [if_neg (by omega),shaped_of (by rw [List.length_replicate];exact h),if_neg (by decide),if_neg hk.1,if_neg hk.2]
 exact tchks_ends m _ _ (by show (m : Int) ≤ 60 - 1;omega)
set_option maxHeartbeats 8000000 in
set_option maxRecDepth 100000 in
theorem gcheck_fn (Γ : Gl) (g : List Nd) (h0g : 0 < g.length) (h2 : g.length ≤ 200) (hg : ∀ n ∈ g,NdG g.length n) (hs : ShG g) : DFn Tryz.prog Γ 119 [.slc (g.map Nd.d)] (iD 0):=by
 have g1 : ((g.length : Int) == 0) = false:=by rw [beq_eq_false_iff_ne];omega
 have g2 : ¬ (200 : Int) < (g.length : Int):=by omega
 refine fn_of_swp (N:=53) Tryz.func119 rfl (by decide) rfl rfl (by simp) (fun C h0=>?_)
 simp only [argE]
 repeat' (first|(with_reducible apply zz1)|((with_reducible apply zz2);rfl;intro K' hK';simp only [WA,simprocAttr,List.length_map,g1,g2];(repeat (constructor;focus (clear hK';intros;simp_all;done)));(try (apply hK';clear hK' K')))|((with_reducible apply zz3);rfl;all_goals (intro h;try exact absurd h (by decide))))
 refine swp_loop (α := Nat) (fun i=>[(0,.d (.slc (g.map Nd.d))),(14,.d (.slc (g.map Nd.d))),(15,.d (iD g.length)),(16,.d (iD i))]) (fun _=>[])
  (fun i=>i ≤ g.length) (fun i=>g.length - i) 0 (Nat.zero_le _) (by refine sub_of h0 ?_ ?_ ?_ <;> simp only [US,WA,simprocAttr,List.length_map]) (fun i hi=>?_)
 have hi : i ≤ g.length:=hi
 have hb0 : (0 : Int) ≤ (i : Int):=by omega
 by_cases hlt : i < g.length
 · obtain ⟨x,hx⟩ : ∃ x,g[i]? = some x:=⟨g[i],by simp [hlt]⟩
   have hxm:=List.mem_of_getElem? hx
   have hget : (g.map Nd.d).getD i default = x.d:=by simp [List.getD,hx]
   have hok:=(hg x hxm).ok
   have hsx:=hs x hxm
   have hto:=hok.to
   have hr:=hok.r
   have hck:=TCheck_fn Γ (nodeT x.k x.so x.ls x.to.length)
   rw [node_check hsx] at hck
   have hb1 : (i : Int) < (g.length : Int):=by omega
   have hw3 : IntKind.i64.wrap ((i : Int) + 1) = ((i + 1 : Nat) : Int):=by rw [wrap_in (by omega) (by omega)];omega
   obtain ⟨k,so,ls,to⟩:=x
   simp only [Nd.d] at hget hto hr hck
   simp only [nodeT,Tp.d,ds_rep] at hck
   repeat' (first|(with_reducible apply zz1)|((with_reducible apply zz2);rfl;intro K' hK';simp only [WA,simprocAttr,Int.toNat_natCast,hget,List.length_map,hb0,hb1];(repeat (constructor;focus (clear hK';intros;simp_all;done)));(try (apply hK';clear hK' K')))|((with_reducible apply zz3);rfl;all_goals (intro h;try exact absurd h (by decide))))
   refine swp_nilB 1 4 2 5 rfl rfl rfl (by decide) ?_
   simp only [WA,simprocAttr]
   refine swp_loop (α := Nat) (fun j=>[(0,.d (.slc (g.map Nd.d))),(14,.d (.slc (g.map Nd.d))),(15,.d (iD g.length)),(16,.d (iD i)),(5,.ref 1 0),(28,.d (.slc (to.map iD))),(29,.d (iD to.length)),(30,.d (iD j))])
    (fun j=>[(1,.cells [.d (iD k),.d (iD so),.d (sD noB),.d (.slc (ls.map sD)),.own 2]),(2,.row 5 (List.replicate j (.agg [iD 1,iD 0,sD noB,.slc [],.slc []])))])
    (fun j=>j ≤ to.length) (fun j=>to.length - j) 0 (Nat.zero_le _) (by refine sub_of h0 ?_ ?_ ?_ <;> simp only [US,WA,simprocAttr,List.replicate_zero]) (fun j hj=>?_)
   have hj : j ≤ to.length:=hj
   have hj0 : (0 : Int) ≤ (j : Int):=by omega
   by_cases hjl : j < to.length
   · obtain ⟨y,hy⟩ : ∃ y,to[j]? = some y:=⟨to[j],by simp [hjl]⟩
     have hyr:=hr y (List.mem_of_getElem? hy)
     have hyg : (to.map iD).getD j default = iD y:=by simp [List.getD,hy]
     have hj1 : (j : Int) < (to.length : Int):=by omega
     have hy0 : ¬ y < 0:=by omega
     have hy1 : ¬ (g.length : Int) ≤ y:=by omega
     have hw2 : IntKind.i64.wrap ((j : Int) + 1) = ((j + 1 : Nat) : Int):=by rw [wrap_in (by omega) (by omega)];omega
     have hm : List.replicate j (D.agg [iD 1,iD 0,sD noB,.slc [],.slc []]) ++ [.agg [iD 1,iD 0,sD noB,.slc [],.slc []]] = List.replicate (j + 1) (.agg [iD 1,iD 0,sD noB,.slc [],.slc []]):=List.replicate_succ'.symm
     have hn3 : (j + 1) * 80 ≤ 140737488355328:=by omega
     have hn4 : j + 1 ≤ maxLen:=by unfold maxLen;omega
     repeat' (first|(with_reducible apply zz1)|((with_reducible apply zz2);rfl;intro K' hK';simp only [WA,simprocAttr,Int.toNat_natCast,hyg,hj0,hj1,hy0,hy1,hn3,hn4,hm,hw2,List.length_replicate,List.length_map,Bool.not_true,Bool.not_false,cond_true,cond_false];(repeat (constructor;focus (clear hK';intros;simp_all;done)));(try (apply hK';clear hK' K')))|((with_reducible apply zz3);rfl;all_goals (intro h;try exact absurd h (by decide))))
     refine ⟨j + 1,(by show j + 1 ≤ to.length;omega),(by show to.length - (j + 1) < to.length - j;omega),by refine sub_of h0 ?_ ?_ ?_ <;> simp only [US,WA,simprocAttr]⟩
   · have hj1 : ¬ (j : Int) < (to.length : Int):=by omega
     have hje : j = to.length:=by omega
     subst hje
     refine swp_frz [2] h0 (by simp only [Option.isSome_some,UF,WA,simprocAttr]) ?_
     simp only [WA,simprocAttr,UF]
     repeat' (first|(with_reducible apply zz1)|((with_reducible apply zz2);rfl;intro K' hK';simp only [WA,simprocAttr,hj1];(repeat (constructor;focus (clear hK';intros;simp_all;done)));(try (apply hK';clear hK' K')))|((with_reducible apply zz3);rfl;all_goals (intro h;try exact absurd h (by decide))))
     refine stop_callF rfl (by simp only [WA,simprocAttr]) rfl rfl (hck) ?_
     simp only [WA,simprocAttr,inX,dropS,bne_self_eq_false]
     (repeat (constructor;focus (clear hK';intros;simp_all;done)))
     (try (apply hK';clear hK' K'))
     repeat' (first|(with_reducible apply zz1)|((with_reducible apply zz2);rfl;intro K' hK';simp only [WA,simprocAttr,hw3];(repeat (constructor;focus (clear hK';intros;simp_all;done)));(try (apply hK';clear hK' K')))|((with_reducible apply zz3);rfl;all_goals (intro h;try exact absurd h (by decide))))
     refine ⟨i + 1,(by show i + 1 ≤ g.length;omega),(by show g.length - (i + 1) < g.length - i;omega),by refine sub_of h0 ?_ ?_ ?_ <;> simp only [US,WA,simprocAttr]⟩
 · have hb1 : ¬ (i : Int) < (g.length : Int):=by omega
   repeat' (first|(with_reducible apply zz1)|((with_reducible apply zz2);rfl;intro K' hK';simp only [WA,simprocAttr,hb1];(repeat (constructor;focus (clear hK';intros;simp_all;done)));(try (apply hK';clear hK' K')))|((with_reducible apply zz3);rfl;all_goals (intro h;try exact absurd h (by decide))))
   simp only [Kret,retL,retOne,oneV,WA,simprocAttr]
end Go.Proofs.YtdcplkefmpjppaaGreatDoor
