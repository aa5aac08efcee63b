/- Types as they are written: plain. -/
import Derived.Test.YtlnmkdbcdcknjaaDoorU6
import Derived.Lib.Join
set_option linter.unusedVariables false
set_option linter.unusedSimpArgs false
namespace Go.Proofs.YtlnmkdbcdcknjaaDoor.GG
open Go.RowKit Go.Sw

def sortsL : List ByteArray:=[noB,⟨#[105,110,116]⟩,⟨#[98,111,111,108]⟩,⟨#[116,101,120,116]⟩]
def sortW (so : Int) : ByteArray:=sortsL.getD so.toNat noB
def wr0 (ws : List ByteArray) (i : Nat) : ByteArray:=ws.getD i noB
def itemB (s w : ByteArray) : ByteArray:=s ++ ⟨#[58]⟩ ++ w
def joinB (xs : List ByteArray) : ByteArray:=packS (Lib.join (xs.map (·.data.toList)) [44])
theorem name_size {s : ByteArray} (h : isNameB s = true) : s.size ≤ 8 ∧ 0 < s.size:=by
 unfold isNameB at h
 (repeat' split at h) <;> first | (cases h;done) | skip
 rename_i h1 h2 h3
 refine ⟨by omega,?_⟩
 rcases Nat.eq_zero_or_pos s.size with h0 | h0
 · exfalso
   apply h1
   rw [Lib.toList_data]
   exact List.eq_nil_of_length_eq_zero h0
 · exact h0
theorem var_name {s : ByteArray} (h : isVarB s = true) : isNameB s = true:=by
 unfold isVarB at h
 split at h
 · assumption
 · cases h
theorem labGo_names : ∀ (l : List ByteArray) (p : ByteArray),labGo p l = true → ∀ s ∈ l,isNameB s = true
 | [],p,h,s,hs=>by cases hs
 | x :: l,p,h,s,hs=>by
  rw [labGo] at h
  by_cases hx : isNameB x = true
  · rw [if_pos hx] at h
    by_cases hp : leB x p = true
    · rw [if_pos hp] at h;cases h
    · rw [if_neg hp] at h
      rcases List.mem_cons.1 hs with rfl | hs
      · exact hx
      · exact labGo_names l x h s hs
  · rw [if_neg hx] at h;cases h
theorem labels_names {ls : List ByteArray} (h : labelsB ls = true) : ∀ s ∈ ls,isNameB s = true:=by
 unfold labelsB at h
 split at h
 · cases h
 split at h
 · cases h
 cases ls with
 | nil=>intro s hs;cases hs
 | cons x l =>
  rw [labAll] at h
  by_cases hx : isNameB x = true
  · rw [if_pos hx] at h
    intro s hs
    rcases List.mem_cons.1 hs with rfl | hs
    · exact hx
    · exact labGo_names l x h s hs
  · rw [if_neg hx] at h;cases h
theorem labels_pos {ls : List ByteArray} (h : labelsB ls = true) : 1 ≤ ls.length:=by
 unfold labelsB at h
 (repeat' split at h) <;> first | omega | cases h
end Go.Proofs.YtlnmkdbcdcknjaaDoor.GG
