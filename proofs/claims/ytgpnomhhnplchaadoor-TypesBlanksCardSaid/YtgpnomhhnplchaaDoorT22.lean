/- A number that comes in; what the program keeps of the longest text. -/
import Derived.Test.YtgpnomhhnplchaaDoorT21
import Derived.Test.YtgpnomhhnplchaaDoorT19
set_option linter.unusedVariables false
namespace Go.Proofs.YtgpnomhhnplchaaDoor
open Go.RowKit Go.Sw
theorem wf_range {n : Int} (h : (Lit.int .i64 n).wf = true) : -9223372036854775808 ≤ n ∧ n ≤ 9223372036854775807 := by
  simp only [Lit.wf, Bool.and_eq_true, decide_eq_true_eq] at h
  have h1 : IntKind.min .i64 = -9223372036854775808 := by decide +kernel
  have h2 : IntKind.max .i64 = 9223372036854775807 := by decide +kernel
  rw [h1, h2] at h
  exact h
theorem maxi_of {W : World} (h : W.ShapedOpen Tryd.prog) : MaxI (GW W) := by
  obtain ⟨m, hm⟩ := Tryd.laysM155.s1_3 W h
  have hm : W.cell? ⟨4, 0, none⟩ = some (.int .i64 m) := hm
  have hb : (4 : Nat) < W.heap.size := World.block_lt_of_cell? _ _ hm
  refine ⟨m, fun w hw => ?_⟩
  rw [World.cell?_of_block (w := W) (hw 4 hb)]
  exact hm
section
variable {H : Type} {enc : TypeId × Value → H} {W : World} {r : Reach} {base b0 : Nat} {sp : Nat → Bool} {held : Bool} {v : Value} {d : DataW H} {p : List MemPlace}
set_option maxRecDepth 100000 in
theorem open3 (hv : Value.okWide Tryd.prog W r base 3 v) (h : DataW.Trod enc Tryd.prog W b0 sp held 3 v d p) (hw : (d.weights Tryd.prog 3).all (· ≤ reachBytes) = true) : ∃ n : Int, RpD W M0 (.d (iD n) v) ∧ -9223372036854775808 ≤ n ∧ n ≤ 9223372036854775807 := by
  obtain ⟨m, xs, h1, h2⟩ := open_top TY_ok (by decide) hv h hw
  obtain ⟨s, rfl, h3⟩ := ty_int un3 h1
  rw [mkD_one (by simp [un3])] at h2
  exact ⟨s, h2, wf_range h3⟩
end
end Go.Proofs.YtgpnomhhnplchaaDoor
