/- Types that are below each other do the same. -/
import Derived.Test.YtgecnlcbdbaneaaDoorHQ3
set_option linter.unusedVariables false
set_option linter.unusedSimpArgs false
namespace Go.Proofs.YtgecnlcbdbaneaaDoor
open Go.RowKit Go.Sw

theorem less_irr : ∀ a : List UInt8,Op.bytesLess a a = false
 | []=>rfl
 | x :: a=>by
  unfold Op.bytesLess
  rw [less_irr a]
  simp
theorem less_trans : ∀ a b c : List UInt8,Op.bytesLess a b = true → Op.bytesLess b c = true → Op.bytesLess a c = true
 | _,[],_,h,_=>by simp [Op.bytesLess] at h
 | _,_ :: _,[],_,h=>by simp [Op.bytesLess] at h
 | [],_ :: _,_ :: _,_,_=>by simp [Op.bytesLess]
 | x :: a,y :: b,z :: c,h1,h2=>by
  simp only [Op.bytesLess,Bool.or_eq_true,decide_eq_true_iff,Bool.and_eq_true,beq_iff_eq] at h1 h2 ⊢
  rcases h1 with h1 | ⟨h1,h3⟩ <;> rcases h2 with h2 | ⟨h2,h4⟩
  · exact .inl (UInt8.lt_trans h1 h2)
  · exact .inl (h2 ▸ h1)
  · exact .inl (h1 ▸ h2)
  · exact .inr ⟨h1.trans h2,less_trans a b c h3 h4⟩
theorem less_total : ∀ a b : List UInt8,Op.bytesLess a b = true ∨ a = b ∨ Op.bytesLess b a = true
 | [],[]=>.inr (.inl rfl)
 | [],_ :: _=>.inl rfl
 | _ :: _,[]=>.inr (.inr rfl)
 | x :: a,y :: b=>by
  simp only [Op.bytesLess,Bool.or_eq_true,decide_eq_true_iff,Bool.and_eq_true,beq_iff_eq]
  by_cases h1 : x < y
  · exact .inl (.inl h1)
  by_cases h2 : y < x
  · exact .inr (.inr (.inl h2))
  have e : x = y:=UInt8.le_antisymm (UInt8.not_lt.1 h2) (UInt8.not_lt.1 h1)
  subst e
  rcases less_total a b with h | h | h
  · exact .inl (.inr ⟨rfl,h⟩)
  · exact .inr (.inl (by rw [h]))
  · exact .inr (.inr (.inr ⟨rfl,h⟩))
theorem ix_at : ∀ {l : List ByteArray} {i j : Nat} {x : ByteArray},l.Nodup → l[i]? = some x → idxS x.toList l j = ((j + i : Nat) : Int)
 | y :: l,0,j,x,_,h=>by
  simp at h
  subst h
  simp [idxS]
 | y :: l,i + 1,j,x,hn,h=>by
  have h' : l[i]? = some x:=by simpa using h
  have hne : ¬ x.toList = y.toList:=fun e=>by
   have:=tl_inj e
   subst this
   exact (List.nodup_cons.1 hn).1 (List.mem_of_getElem? h')
  unfold idxS
  rw [if_neg hne,ix_at (List.nodup_cons.1 hn).2 h',show j + 1 + i = j + (i + 1) by omega]
theorem ixL_at {l : List ByteArray} {i : Nat} {x : ByteArray} (hn : l.Nodup) (h : l[i]? = some x) : (ixL x l).toNat = i:=by
 unfold ixL
 rw [ix_at hn h];simp
def shp (k so : Int) (ls : List ByteArray) (m : Nat) : Prop :=
 (k = 1 ∧ so = 0 ∧ ls = [] ∧ m = 0) ∨ ((k = 2 ∨ k = 3) ∧ (1 ≤ so ∧ so ≤ 3) ∧ ls = [] ∧ m = 1) ∨ ((k = 4 ∨ k = 5) ∧ so = 0 ∧ ls = [] ∧ m = 2) ∨ ((k = 6 ∨ k = 7) ∧ so = 0 ∧ labelsB ls = true ∧ m = ls.length)
theorem len1 {α : Type} {l : List α} (h : l.length = 1) : ∃ x,l = [x]:=by
 match l,h with
 | [x],_=>exact ⟨x,rfl⟩
theorem kidL_at {ls : List ByteArray} {l : List Tr} {i : Nat} {x : ByteArray} {t : Tr} (hn : ls.Nodup) (h : ls[i]? = some x) (ht : l[i]? = some t) : kidL ls l x = t:=by
 unfold kidL kid
 rw [ixL_at hn h]
 simp [List.getD,ht]
def ShG (g : List Nd) : Prop := ∀ x ∈ g,shp x.k x.so x.ls x.to.length
def trT (x : Tp) (n : Nat) : Tr:=obs (rawP x) n 0
theorem ofP_obs {x : Tp} (h : tCheck x = 0) (n : Nat) : obs (ofP x) n 0 = trT x n:=by
 obtain ⟨h1,h2,h3,h4,h5,h6⟩:=raw_good h
 unfold ofP
 rw [if_pos h]
 exact least_obs (g:=rawP x) h6 h4 n
theorem is_iff {x y : Tp} (h : bErr x y = 0) : isP x y = true ↔ ∀ n,subT n (trT x n) (trT y n):=by
 obtain ⟨hx,hy⟩:=bErr_zero h
 obtain ⟨a1,a2,a3⟩:=ofP_good hx
 obtain ⟨b1,b2,b3⟩:=ofP_good hy
 unfold isP
 rw [if_pos h,Option.isNone_iff_eq_none,why_iff a1 b1 a3 b3]
 simp only [ofP_obs hx,ofP_obs hy]
end Go.Proofs.YtgecnlcbdbaneaaDoor
