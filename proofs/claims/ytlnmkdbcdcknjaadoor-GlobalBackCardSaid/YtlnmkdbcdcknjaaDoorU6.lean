/- Types that are right: plain. -/
import Derived.Test.YtlnmkdbcdcknjaaDoorU5
set_option linter.unusedVariables false
set_option linter.unusedSimpArgs false
namespace Go.Proofs.YtlnmkdbcdcknjaaDoor
open Go.RowKit Go.Sw

abbrev noB : ByteArray:=⟨#[]⟩
theorem empty_of {s : ByteArray} (h : emptyB s = true) : s = noB:=by
 unfold emptyB at h
 have h:=eq_of_beq h
 rw [Lib.toList_data,Lib.toList_data] at h
 obtain ⟨d⟩:=s
 have : d = #[]:=Array.toList_inj.1 h
 rw [this]
inductive OkT : Tp → Prop
 | nil : OkT (.mk 1 0 noB [] [])
 | pass (k so : Int) (x : Tp) (hk : k = 2 ∨ k = 3) (h1 : 1 ≤ so) (h3 : so ≤ 3) (hx : OkT x) : OkT (.mk k so noB [] [x])
 | give (k : Int) (x y : Tp) (hk : k = 4 ∨ k = 5) (hx : OkT x) (hy : OkT y) : OkT (.mk k 0 noB [] [x,y])
 | pick (k : Int) (ls : List ByteArray) (l : List Tp) (hk : k = 6 ∨ k = 7) (hl : labelsB ls = true) (hn : l.length = ls.length) (h : ∀ x ∈ l,OkT x) : OkT (.mk k 0 noB ls l)
 | bind (nm : ByteArray) (x : Tp) (hn : isVarB nm = true) (hx : OkT x) : OkT (.mk 8 0 nm [] [x])
 | var (nm : ByteArray) (hn : isVarB nm = true) : OkT (.mk 9 0 nm [] [])
theorem sort_none {so : Int} (h : sortB false so = true) : so = 0:=by
 simpa [sortB] using h
theorem sort_some {so : Int} (h : sortB true so = true) : 1 ≤ so ∧ so ≤ 3:=by
 simpa [sortB] using h
theorem len_one {α : Type} {l : List α} (h : l.length = 1) : ∃ x,l = [x]:=by
 match l,h with
 | [x],_=>exact ⟨x,rfl⟩
end Go.Proofs.YtlnmkdbcdcknjaaDoor
