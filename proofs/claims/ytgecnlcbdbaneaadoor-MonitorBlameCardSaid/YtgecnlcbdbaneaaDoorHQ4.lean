/- Types that are below each other do the same. -/
import Derived.Test.YtgecnlcbdbaneaaDoorHQ3
set_option linter.unusedVariables false
set_option linter.unusedSimpArgs false
namespace Go.Proofs.YtgecnlcbdbaneaaDoor
open Go.RowKit Go.Sw

theorem less_irr : ∀ a : List UInt8,Op.bytesLess a a = false
 | []=>rfl
 | x :: a=>by
  unfold Op.bytesLess
  rw [less_irr a]
  simp
theorem less_trans : ∀ a b c : List UInt8,Op.bytesLess a b = true → Op.bytesLess b c = true → Op.bytesLess a c = true
 | _,[],_,h,_=>by simp [Op.bytesLess] at h
 | _,_ :: _,[],_,h=>by simp [Op.bytesLess] at h
 | [],_ :: _,_ :: _,_,_=>by simp [Op.bytesLess]
 | x :: a,y :: b,z :: c,h1,h2=>by
  simp only [Op.bytesLess,Bool.or_eq_true,decide_eq_true_iff,Bool.and_eq_true,beq_iff_eq] at h1 h2 ⊢
  rcases h1 with h1 | ⟨h1,h3⟩ <;> rcases h2 with h2 | ⟨h2,h4⟩
  · exact .inl (UInt8.lt_trans h1 h2)
  · exact .inl (h2 ▸ h1)
  · exact .inl (h1 ▸ h2)
  · exact .inr ⟨h1.trans h2,less_trans a b c h3 h4⟩
theorem less_total : ∀ a b : List UInt8,Op.bytesLess a b = true ∨ a = b ∨ Op.bytesLess b a = true
 | [],[]=>.inr (.inl rfl)
 | [],_ :: _=>.inl rfl
 | _ :: _,[]=>.inr (.inr rfl)
 | x :: a,y :: b=>by
  simp only [Op.bytesLess,Bool.or_eq_true,decide_eq_true_iff,Bool.and_eq_true,beq_iff_eq]
  by_cases h1 : x < y
  · exact .inl (.inl h1)
  by_cases h2 : y < x
  · exact .inr (.inr (.inl h2))
  have e : x = y:=UInt8.le_antisymm (UInt8.not_lt.1 h2) (UInt8.not_lt.1 h1)
  subst e
  rcases less_total a b with h | h | h
  · exact .inl (.inr ⟨rfl,h⟩)
  · exact .inr (.inl (by rw [h]))
  · exact .inr (.inr (.inr ⟨rfl,h⟩))
def ltB (a b : ByteArray) : Prop:=Op.bytesLess a.toList b.toList = true
theorem labGo_sort : ∀ (l : List ByteArray) (p : ByteArray),labGo p l = true → (∀ x ∈ l,ltB p x) ∧ l.Pairwise ltB
 | [],p,_=>⟨fun x hx=>(by cases hx),List.Pairwise.nil⟩
 | s :: l,p,h=>by
  unfold labGo at h
  split at h
  rotate_left
  · cases h
  split at h
  · cases h
  rename_i h1 h2
  have ih:=labGo_sort l s h
  have hps : ltB p s:=by
   unfold ltB
   rcases less_total p.toList s.toList with h | h | h
   · exact h
   · exfalso;apply h2;unfold leB;rw [h];simp
   · exfalso;apply h2;unfold leB;rw [h];rfl
  refine ⟨fun x hx=>?_,List.pairwise_cons.2 ⟨ih.1,ih.2⟩⟩
  rcases List.mem_cons.1 hx with rfl | hx
  · exact hps
  · exact less_trans _ _ _ hps (ih.1 x hx)
theorem labels_sort {ls : List ByteArray} (h : labelsB ls = true) : ls.Pairwise ltB:=by
 unfold labelsB at h
 split at h
 · cases h
 split at h
 · cases h
 cases ls with
 | nil=>exact List.Pairwise.nil
 | cons s l =>
  simp only [labAll] at h
  split at h
  · have:=labGo_sort l s h
    exact List.pairwise_cons.2 this
  · cases h
theorem lt_irr (a : ByteArray) : ¬ ltB a a:=by unfold ltB;rw [less_irr];decide
theorem sort_nodup {l : List ByteArray} (h : l.Pairwise ltB) : l.Nodup:=h.imp fun {a b} hab e=>by subst e;exact lt_irr _ hab
theorem ix_at : ∀ {l : List ByteArray} {i j : Nat} {x : ByteArray},l.Nodup → l[i]? = some x → idxS x.toList l j = ((j + i : Nat) : Int)
 | y :: l,0,j,x,_,h=>by
  simp at h
  subst h
  simp [idxS]
 | y :: l,i + 1,j,x,hn,h=>by
  have h' : l[i]? = some x:=by simpa using h
  have hne : ¬ x.toList = y.toList:=fun e=>by
   have:=tl_inj e
   subst this
   exact (List.nodup_cons.1 hn).1 (List.mem_of_getElem? h')
  unfold idxS
  rw [if_neg hne,ix_at (List.nodup_cons.1 hn).2 h',show j + 1 + i = j + (i + 1) by omega]
theorem ixL_at {l : List ByteArray} {i : Nat} {x : ByteArray} (hn : l.Nodup) (h : l[i]? = some x) : (ixL x l).toNat = i:=by
 unfold ixL
 rw [ix_at hn h];simp
def shp (k so : Int) (ls : List ByteArray) (m : Nat) : Prop :=
 (k = 1 ∧ so = 0 ∧ ls = [] ∧ m = 0) ∨ ((k = 2 ∨ k = 3) ∧ (1 ≤ so ∧ so ≤ 3) ∧ ls = [] ∧ m = 1) ∨ ((k = 4 ∨ k = 5) ∧ so = 0 ∧ ls = [] ∧ m = 2) ∨ ((k = 6 ∨ k = 7) ∧ so = 0 ∧ labelsB ls = true ∧ m = ls.length)
theorem kidL_at {ls : List ByteArray} {l : List Tr} {i : Nat} {x : ByteArray} {t : Tr} (hn : ls.Nodup) (h : ls[i]? = some x) (ht : l[i]? = some t) : kidL ls l x = t:=by
 unfold kidL kid
 rw [ixL_at hn h]
 simp [List.getD,ht]
def ShG (g : List Nd) : Prop := ∀ x ∈ g,shp x.k x.so x.ls x.to.length
mutual
def shT : Tp → Prop
 | .mk k so nm ls l=>(k ≠ 9 → k ≠ 8 → shp k so ls l.length) ∧ shTs l
def shTs : List Tp → Prop
 | []=>True
 | x :: l=>shT x ∧ shTs l
end
theorem shTs_of {l : List Tp} (h : ∀ x ∈ l,shT x) : shTs l:=by
 induction l with
 | nil=>trivial
 | cons x l ih=>exact ⟨h x (by simp),ih fun y hy=>h y (by simp [hy])⟩
theorem ok_shT {x : Tp} (h : OkT x) : shT x:=by
 induction h with
 | nil=>exact ⟨fun _ _=>.inl ⟨rfl,rfl,rfl,rfl⟩,trivial⟩
 | pass k so x hk h1 h3 hx ih=>exact ⟨fun _ _=>.inr (.inl ⟨hk,⟨h1,h3⟩,rfl,rfl⟩),ih,trivial⟩
 | give k x y hk hx hy ih1 ih2=>exact ⟨fun _ _=>.inr (.inr (.inl ⟨hk,rfl,rfl,rfl⟩)),ih1,ih2,trivial⟩
 | pick k ls l hk hl hn h ih=>exact ⟨fun _ _=>.inr (.inr (.inr ⟨hk,rfl,hl,hn⟩)),shTs_of ih⟩
 | bind nm x hn hx ih=>exact ⟨fun _ h=>absurd rfl h,ih,trivial⟩
 | var nm hn=>exact ⟨fun h=>absurd rfl h,trivial⟩
mutual
theorem addT_shp : ∀ (x : Tp) (ns : List ByteArray) (av : List Int) (L : List Nd),shT x → ∀ (i : Nat) (n : Nd),L.length ≤ i → (addT x ns av L).2[i]? = some n → shp n.k n.so n.ls n.to.length
 | .mk k so nm ls l,ns,av,L,hs,i,n,hi,h=>by
  unfold shT at hs
  unfold addT at h
  split at h
  · simp only at h
    rw [List.getElem?_eq_none hi] at h;cases h
  split at h
  · cases l with
    | nil=>simp only [addF] at h;rw [List.getElem?_eq_none hi] at h;cases h
    | cons x l =>
     simp only [addF] at h
     exact addT_shp x _ _ L hs.2.1 i n hi h
  · rename_i h9 h8
    have hlen:=addTs_len l ns av (L ++ [⟨k,so,ls,[]⟩])
    simp only [List.length_append,List.length_cons,List.length_nil] at hlen
    simp only at h
    by_cases he : i = L.length
    · subst he
      rw [List.getElem?_set_self (by omega)] at h
      cases h
      simp only
      rw [addTs_to]
      exact hs.1 h9 h8
    · rw [List.getElem?_set_ne (Ne.symm he)] at h
      exact addTs_shp l ns av _ hs.2 i n (by simp;omega) h
theorem addTs_shp : ∀ (l : List Tp) (ns : List ByteArray) (av : List Int) (L : List Nd),shTs l → ∀ (i : Nat) (n : Nd),L.length ≤ i → (addTs l ns av L).2[i]? = some n → shp n.k n.so n.ls n.to.length
 | [],ns,av,L,hs,i,n,hi,h=>by
  simp only [addTs] at h
  rw [List.getElem?_eq_none hi] at h;cases h
 | x :: l,ns,av,L,hs,i,n,hi,h=>by
  unfold shTs at hs
  simp only [addTs] at h
  by_cases hi2 : i < (addT x ns av L).2.length
  · rw [addTs_keep l ns av _ i hi2] at h
    exact addT_shp x ns av L hs.1 i n hi h
  · exact addTs_shp l ns av _ hs.2 i n (by omega) h
end
def trT (x : Tp) (n : Nat) : Tr:=obs (rawP x) n 0
theorem raw_sh {x : Tp} (h : tCheck x = 0) : ShG (rawP x):=by
 intro n hn
 obtain ⟨i,hi,rfl⟩:=List.mem_iff_getElem.1 hn
 exact addT_shp x [] [] [] (ok_shT (ok_check h).1) i _ (Nat.zero_le _) (List.getElem?_eq_getElem hi)
theorem ofP_obs {x : Tp} (h : tCheck x = 0) (n : Nat) : obs (ofP x) n 0 = trT x n:=by
 obtain ⟨h1,h2,h3,h4,h5,h6⟩:=raw_good h
 unfold ofP
 rw [if_pos h]
 exact least_obs (g:=rawP x) h6 h4 n
theorem is_iff {x y : Tp} (h : bErr x y = 0) : isP x y = true ↔ ∀ n,subT n (trT x n) (trT y n):=by
 obtain ⟨hx,hy⟩:=bErr_zero h
 obtain ⟨a1,a2,a3⟩:=ofP_good hx
 obtain ⟨b1,b2,b3⟩:=ofP_good hy
 unfold isP
 rw [if_pos h,Option.isNone_iff_eq_none,why_iff a1 b1 a3 b3]
 simp only [ofP_obs hx,ofP_obs hy]
end Go.Proofs.YtgecnlcbdbaneaaDoor
