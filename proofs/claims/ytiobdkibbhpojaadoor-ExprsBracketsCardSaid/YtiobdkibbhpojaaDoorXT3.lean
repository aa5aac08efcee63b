/- Facts on the types that the walks meet: sizes, zeros, fields, elements. -/
import Derived.Test.YtiobdkibbhpojaaDoorProg
import Derived.Test.YtiobdkibbhpojaaDoorXT2
set_option linter.unusedVariables false
namespace Go.Proofs.YtiobdkibbhpojaaDoor
open Go.Sw

theorem sz66 : szOf Tryd.prog 66 = some 2 := by kernel_rfl
theorem ag66 : aggB Tryd.prog 66 = some true := by kernel_rfl
theorem zr66 : zeroS Tryd.prog 66 = some (.agg [.d (.v (.int .i64 0)), .d (.v (.int .i64 0))]) := by kernel_rfl
theorem pl66 : plcs Tryd.prog 66 = some [(0, 1), (1, 1)] := by kernel_rfl
theorem fl66_0 : fldOf Tryd.prog 66 0 = some (0, 1) := by kernel_rfl
theorem pt66_0 : partOf Tryd.prog 66 0 = some (0, 1) := by kernel_rfl
theorem fl66_1 : fldOf Tryd.prog 66 1 = some (1, 1) := by kernel_rfl
theorem pt66_1 : partOf Tryd.prog 66 1 = some (1, 1) := by kernel_rfl
theorem sz128 : szOf Tryd.prog 128 = some 1 := by kernel_rfl
theorem ag128 : aggB Tryd.prog 128 = some false := by kernel_rfl
-- no zero of 128: tuple tuple 2 int i32 0 int i64 0
theorem sz141 : szOf Tryd.prog 141 = some 1 := by kernel_rfl
theorem ag141 : aggB Tryd.prog 141 = some false := by kernel_rfl
theorem zr141 : zeroS Tryd.prog 141 = some (.d (.v (.pointer none))) := by kernel_rfl
theorem sz143 : szOf Tryd.prog 143 = some 2 := by kernel_rfl
theorem ag143 : aggB Tryd.prog 143 = some true := by kernel_rfl
theorem zr143 : zeroS Tryd.prog 143 = some (.agg [.d (.v (.string ⟨#[]⟩)), .d (.v (.int .i64 0))]) := by kernel_rfl
theorem pl143 : plcs Tryd.prog 143 = some [(0, 1), (1, 1)] := by kernel_rfl
theorem fl143_0 : fldOf Tryd.prog 143 0 = some (0, 1) := by kernel_rfl
theorem pt143_0 : partOf Tryd.prog 143 0 = some (0, 1) := by kernel_rfl
theorem fl143_1 : fldOf Tryd.prog 143 1 = some (1, 1) := by kernel_rfl
theorem pt143_1 : partOf Tryd.prog 143 1 = some (1, 1) := by kernel_rfl
theorem sz145 : szOf Tryd.prog 145 = some 2 := by kernel_rfl
theorem ag145 : aggB Tryd.prog 145 = some true := by kernel_rfl
theorem zr145 : zeroS Tryd.prog 145 = some (.agg [.d (.v (.int .i64 0)), .d (.v (.int .i64 0))]) := by kernel_rfl
theorem pl145 : plcs Tryd.prog 145 = some [(0, 2)] := by kernel_rfl
theorem fl145_0 : fldOf Tryd.prog 145 0 = some (0, 2) := by kernel_rfl
theorem pt145_0 : partOf Tryd.prog 145 0 = some (0, 2) := by kernel_rfl
/-- All of them. -/
theorem XT3S : (szOf Tryd.prog 66 = some 2) ∧ (aggB Tryd.prog 66 = some true) ∧ (zeroS Tryd.prog 66 = some (.agg [.d (.v (.int .i64 0)), .d (.v (.int .i64 0))])) ∧ (plcs Tryd.prog 66 = some [(0, 1), (1, 1)]) ∧ (fldOf Tryd.prog 66 0 = some (0, 1)) ∧ (partOf Tryd.prog 66 0 = some (0, 1)) ∧ (fldOf Tryd.prog 66 1 = some (1, 1)) ∧ (partOf Tryd.prog 66 1 = some (1, 1)) ∧ (szOf Tryd.prog 128 = some 1) ∧ (aggB Tryd.prog 128 = some false) ∧ (szOf Tryd.prog 141 = some 1) ∧ (aggB Tryd.prog 141 = some false) ∧ (zeroS Tryd.prog 141 = some (.d (.v (.pointer none)))) ∧ (szOf Tryd.prog 143 = some 2) ∧ (aggB Tryd.prog 143 = some true) ∧ (zeroS Tryd.prog 143 = some (.agg [.d (.v (.string ⟨#[]⟩)), .d (.v (.int .i64 0))])) ∧ (plcs Tryd.prog 143 = some [(0, 1), (1, 1)]) ∧ (fldOf Tryd.prog 143 0 = some (0, 1)) ∧ (partOf Tryd.prog 143 0 = some (0, 1)) ∧ (fldOf Tryd.prog 143 1 = some (1, 1)) ∧ (partOf Tryd.prog 143 1 = some (1, 1)) ∧ (szOf Tryd.prog 145 = some 2) ∧ (aggB Tryd.prog 145 = some true) ∧ (zeroS Tryd.prog 145 = some (.agg [.d (.v (.int .i64 0)), .d (.v (.int .i64 0))])) ∧ (plcs Tryd.prog 145 = some [(0, 2)]) ∧ (fldOf Tryd.prog 145 0 = some (0, 2)) ∧ (partOf Tryd.prog 145 0 = some (0, 2)) := ⟨sz66, ag66, zr66, pl66, fl66_0, pt66_0, fl66_1, pt66_1, sz128, ag128, sz141, ag141, zr141, sz143, ag143, zr143, pl143, fl143_0, pt143_0, fl143_1, pt143_1, sz145, ag145, zr145, pl145, fl145_0, pt145_0⟩
end Go.Proofs.YtiobdkibbhpojaaDoor
