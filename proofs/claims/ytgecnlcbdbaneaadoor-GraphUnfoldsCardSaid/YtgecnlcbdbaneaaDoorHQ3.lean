/- What is below, of trees; below.both's why tells it. -/
import Derived.Test.YtgecnlcbdbaneaaDoorHQ2
import Derived.Test.YtgecnlcbdbaneaaDoorH10
set_option linter.unusedVariables false
set_option linter.unusedSimpArgs false
namespace Go.Proofs.YtgecnlcbdbaneaaDoor
open Go.RowKit Go.Sw

theorem tl_inj {x y : ByteArray} (h : x.toList = y.toList) : x = y := by
  rw [Lib.toList_data, Lib.toList_data] at h
  exact bs_inj h
theorem inL_iff {ls : List ByteArray} {x : ByteArray} : inL ls x = true ↔ x ∈ ls := by
  unfold inL
  rw [List.any_eq_true]
  constructor
  · rintro ⟨b, hb, e⟩
    rw [tl_inj (beq_iff_eq.1 e)]; exact hb
  · intro h; exact ⟨x, h, beq_iff_eq.2 rfl⟩
def kid (l : List Tr) (i : Nat) : Tr := l.getD i .cut
end Go.Proofs.YtgecnlcbdbaneaaDoor
