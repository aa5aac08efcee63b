/- Types that are right, as they are written: plain. -/
import Derived.Test.YtmohkmfimcnfeaaDoorGU5
set_option linter.unusedVariables false
set_option linter.unusedSimpArgs false
namespace Go.Proofs.YtmohkmfimcnfeaaDoor
open Go.RowKit Go.Sw

abbrev noB : ByteArray:=⟨#[]⟩
theorem empty_of {s : ByteArray} (h : emptyB s = true) : s = noB:=by
 unfold emptyB at h
 have h:=eq_of_beq h
 rw [Lib.toList_data,Lib.toList_data] at h
 obtain ⟨d⟩:=s
 have : d = #[]:=Array.toList_inj.1 h
 rw [this]
theorem empty_rfl : emptyB noB = true:=by decide +kernel
inductive OkT : Tp → Prop
 | nil : OkT (.mk 1 0 noB [] [])
 | pass (k so : Int) (x : Tp) (hk : k = 2 ∨ k = 3) (h1 : 1 ≤ so) (h3 : so ≤ 3) (hx : OkT x) : OkT (.mk k so noB [] [x])
 | give (k : Int) (x y : Tp) (hk : k = 4 ∨ k = 5) (hx : OkT x) (hy : OkT y) : OkT (.mk k 0 noB [] [x,y])
 | pick (k : Int) (ls : List ByteArray) (l : List Tp) (hk : k = 6 ∨ k = 7) (hl : labelsB ls = true) (hn : l.length = ls.length) (h : ∀ x ∈ l,OkT x) : OkT (.mk k 0 noB ls l)
 | bind (nm : ByteArray) (x : Tp) (hn : isVarB nm = true) (hx : OkT x) : OkT (.mk 8 0 nm [] [x])
 | var (nm : ByteArray) (hn : isVarB nm = true) : OkT (.mk 9 0 nm [] [])
theorem sort_none {so : Int} (h : sortB false so = true) : so = 0:=by
 simpa [sortB] using h
theorem sort_some {so : Int} (h : sortB true so = true) : 1 ≤ so ∧ so ≤ 3:=by
 simpa [sortB] using h
theorem len_one {α : Type} {l : List α} (h : l.length = 1) : ∃ x,l = [x]:=by
 match l,h with
 | [x],_=>exact ⟨x,rfl⟩
theorem name_size {s : ByteArray} (h : isNameB s = true) : s.size ≤ 8 ∧ 0 < s.size:=by
 unfold isNameB at h
 (repeat' split at h) <;> first | (cases h;done) | skip
 rename_i h1 h2 h3
 refine ⟨by omega,?_⟩
 rcases Nat.eq_zero_or_pos s.size with h0 | h0
 · exfalso
   apply h1
   rw [Lib.toList_data]
   exact List.eq_nil_of_length_eq_zero h0
 · exact h0
theorem var_name {s : ByteArray} (h : isVarB s = true) : isNameB s = true:=by
 unfold isVarB at h
 split at h
 · assumption
 · cases h
theorem labGo_names : ∀ (l : List ByteArray) (p : ByteArray),labGo p l = true → ∀ s ∈ l,isNameB s = true
 | [],p,h,s,hs=>by cases hs
 | x :: l,p,h,s,hs=>by
  rw [labGo] at h
  by_cases hx : isNameB x = true
  · rw [if_pos hx] at h
    by_cases hp : leB x p = true
    · rw [if_pos hp] at h;cases h
    · rw [if_neg hp] at h
      rcases List.mem_cons.1 hs with rfl | hs
      · exact hx
      · exact labGo_names l x h s hs
  · rw [if_neg hx] at h;cases h
theorem labels_names {ls : List ByteArray} (h : labelsB ls = true) : ∀ s ∈ ls,isNameB s = true:=by
 unfold labelsB at h
 split at h
 · cases h
 split at h
 · cases h
 cases ls with
 | nil=>intro s hs;cases hs
 | cons x l =>
  rw [labAll] at h
  by_cases hx : isNameB x = true
  · rw [if_pos hx] at h
    intro s hs
    rcases List.mem_cons.1 hs with rfl | hs
    · exact hx
    · exact labGo_names l x h s hs
  · rw [if_neg hx] at h;cases h
theorem labels_pos {ls : List ByteArray} (h : labelsB ls = true) : 1 ≤ ls.length:=by
 unfold labelsB at h
 (repeat' split at h) <;> first | omega | cases h
end Go.Proofs.YtmohkmfimcnfeaaDoor
