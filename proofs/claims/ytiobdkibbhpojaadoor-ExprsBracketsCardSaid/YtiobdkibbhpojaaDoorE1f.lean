/- Expressions with few kids: what Check lets by. -/
import Derived.Test.YtiobdkibbhpojaaDoorE1
set_option linter.unusedVariables false
set_option linter.unusedSimpArgs false
namespace Go.Proofs.YtiobdkibbhpojaaDoor
open Go.RowKit

mutual
/-- no list of kids is longer than 2 to the 47. -/
def Ex.fits : Ex → Prop | .mk _ _ _ _ _ l => l.length ≤ 140737488355328 ∧ Ex.allFit l
def Ex.allFit : List Ex → Prop | [] => True | x :: l => Ex.fits x ∧ Ex.allFit l
end
theorem Ex.fit_mem : ∀ {l : List Ex} {x : Ex}, Ex.allFit l → x ∈ l → x.fits
  | y :: l, x, h, hx => by
    rcases List.mem_cons.1 hx with rfl | hx
    · exact h.1
    · exact Ex.fit_mem h.2 hx

/-- What Check lets by has few kids. -/
theorem opB_len {nm : ByteArray} {m : Nat} (h : opB nm m = true) : m ≤ 2 := by
  unfold opB at h
  simp only [Bool.or_eq_true, Bool.and_eq_true, beq_iff_eq] at h
  omega
mutual
theorem fits_of_chk : ∀ (x : Ex) (left : Int), (chk x left).1 = 0 → x.fits
  | .mk k nm t n s l, left, h => by
    unfold chk at h
    by_cases c0 : left - 1 < 0
    · rw [if_pos c0] at h; simp at h
    rw [if_neg c0] at h
    by_cases c1 : k = 1 ∧ nm.toList = [] ∧ l.length = 0
    · have : l = [] := List.length_eq_zero_iff.1 c1.2.2
      subst this
      exact ⟨by simp, trivial⟩
    rw [if_neg c1] at h
    by_cases c2 : k = 2 ∧ bareB t n s = true ∧ l.length = 0 ∧ isNameB nm = true
    · have : l = [] := List.length_eq_zero_iff.1 c2.2.2.1
      subst this
      exact ⟨by simp, trivial⟩
    rw [if_neg c2] at h
    by_cases c3 : k = 3 ∧ bareB t n s = true ∧ opB nm l.length = true
    · rw [if_pos c3] at h
      exact ⟨by have := opB_len c3.2.2; omega, fits_of_chks l _ h⟩
    · rw [if_neg c3] at h; simp at h
theorem fits_of_chks : ∀ (l : List Ex) (left : Int), (chks l left).1 = 0 → Ex.allFit l
  | [], _, _ => trivial
  | x :: l, left, h => by
    unfold chks at h
    by_cases c : (chk x left).1 ≠ 0
    · rw [if_pos c] at h; exact absurd h c
    · rw [if_neg c] at h
      exact ⟨fits_of_chk x left (by simpa using c), fits_of_chks l _ h⟩
end
end Go.Proofs.YtiobdkibbhpojaaDoor
