/- Names changed and changed back: plain. -/
import Derived.Test.YtmohkmfimcnfeaaDoorG7
set_option linter.unusedVariables false
set_option linter.unusedSimpArgs false
namespace Go.Proofs.YtmohkmfimcnfeaaDoor
open Go.RowKit Go.Sw

theorem bytes_inj {x y : ByteArray} (h : x.toList = y.toList) : x = y:=by
 rw [Lib.toList_data,Lib.toList_data] at h
 obtain ⟨x⟩:=x
 obtain ⟨y⟩:=y
 rw [show x = y from Array.toList_inj.1 h]
theorem inL_iff {l : List ByteArray} {s : ByteArray} : inL l s = true ↔ s ∈ l:=by
 unfold inL
 rw [List.any_eq_true]
 constructor
 · rintro ⟨x,hx,h⟩
   rw [bytes_inj (eq_of_beq h)];exact hx
 · intro h;exact ⟨s,h,by simp⟩
theorem inL_not {l : List ByteArray} {s : ByteArray} : inL l s = false ↔ s ∉ l:=by
 rw [← Bool.not_eq_true,inL_iff]
theorem idx_cases (s : ByteArray) : ∀ (l : List ByteArray) (j : Nat),(idxS s.toList l j = -1 ∧ s ∉ l) ∨ ∃ k,l[k]? = some s ∧ idxS s.toList l j = ((j + k : Nat) : Int) ∧ s ∉ l.take k
 | [],j=>.inl ⟨rfl,by simp⟩
 | b :: l,j=>by
  unfold idxS
  by_cases h : s.toList = b.toList
  · rw [if_pos h]
    exact .inr ⟨0,by rw [bytes_inj h];rfl,by simp,by simp⟩
  · rw [if_neg h]
    have hne : s ≠ b:=fun e=>h (by rw [e])
    rcases idx_cases s l (j + 1) with ⟨h1,h2⟩ | ⟨k,h1,h2,h3⟩
    · exact .inl ⟨h1,by simp [hne,h2]⟩
    · refine .inr ⟨k + 1,by simpa using h1,by rw [h2];omega,?_⟩
      rw [List.take_succ_cons]
      simp [hne,h3]
theorem nm_cases (F T : List ByteArray) (h : F.length = T.length) (s : ByteArray) : (s ∉ F ∧ nmF F T s = s) ∨ ∃ k t,F[k]? = some s ∧ T[k]? = some t ∧ nmF F T s = t ∧ s ∉ F.take k:=by
 unfold nmF
 rcases idx_cases s F 0 with ⟨h1,h2⟩ | ⟨k,h1,h2,h3⟩
 · exact .inl ⟨h2,by rw [h1,if_neg (by decide)]⟩
 · have hk:=(List.getElem?_eq_some_iff.1 h1).1
   obtain ⟨t,ht⟩ : ∃ t,T[k]? = some t:=⟨T[k]'(by omega),by simp⟩
   refine .inr ⟨k,t,h1,ht,?_,h3⟩
   rw [h2,Nat.zero_add,if_pos (by omega),Int.toNat_natCast]
   simp [List.getD,ht]
end Go.Proofs.YtmohkmfimcnfeaaDoor
