/- Facts on the types that the walks meet: sizes, zeros, fields, elements. -/
import Derived.Test.YtiobdkibbhpojaaDoorProg
import Derived.Test.YtiobdkibbhpojaaDoorXT
set_option linter.unusedVariables false
namespace Go.Proofs.YtiobdkibbhpojaaDoor
open Go.Sw

theorem sz47 : szOf Tryd.prog 47 = some 1 := by kernel_rfl
theorem ag47 : aggB Tryd.prog 47 = some false := by kernel_rfl
theorem zr47 : zeroS Tryd.prog 47 = some (.d (.v .nilFunc)) := by kernel_rfl
theorem sz96 : szOf Tryd.prog 96 = some 1 := by kernel_rfl
theorem ag96 : aggB Tryd.prog 96 = some false := by kernel_rfl
theorem zr96 : zeroS Tryd.prog 96 = some (.d (.v .nilFunc)) := by kernel_rfl
theorem sz104 : szOf Tryd.prog 104 = some 1 := by kernel_rfl
theorem ag104 : aggB Tryd.prog 104 = some false := by kernel_rfl
theorem zr104 : zeroS Tryd.prog 104 = some (.d (.v (.int .u64 0))) := by kernel_rfl
theorem un104 : Tryd.prog.underlying 104 = some (.int .u64) := by kernel_rfl
theorem sz150 : szOf Tryd.prog 150 = some 1 := by kernel_rfl
theorem ag150 : aggB Tryd.prog 150 = some false := by kernel_rfl
theorem zr150 : zeroS Tryd.prog 150 = some (.d (.v (.int .u64 0))) := by kernel_rfl
theorem un150 : Tryd.prog.underlying 150 = some (.int .u64) := by kernel_rfl
theorem sz169 : szOf Tryd.prog 169 = some 1 := by kernel_rfl
theorem ag169 : aggB Tryd.prog 169 = some false := by kernel_rfl
theorem zr169 : zeroS Tryd.prog 169 = some (.d (.v (.int .i64 0))) := by kernel_rfl
theorem un169 : Tryd.prog.underlying 169 = some (.int .i64) := by kernel_rfl
/-- All of them. -/
theorem XT2S : (szOf Tryd.prog 47 = some 1) ∧ (aggB Tryd.prog 47 = some false) ∧ (zeroS Tryd.prog 47 = some (.d (.v .nilFunc))) ∧ (szOf Tryd.prog 96 = some 1) ∧ (aggB Tryd.prog 96 = some false) ∧ (zeroS Tryd.prog 96 = some (.d (.v .nilFunc))) ∧ (szOf Tryd.prog 104 = some 1) ∧ (aggB Tryd.prog 104 = some false) ∧ (zeroS Tryd.prog 104 = some (.d (.v (.int .u64 0)))) ∧ (Tryd.prog.underlying 104 = some (.int .u64)) ∧ (szOf Tryd.prog 150 = some 1) ∧ (aggB Tryd.prog 150 = some false) ∧ (zeroS Tryd.prog 150 = some (.d (.v (.int .u64 0)))) ∧ (Tryd.prog.underlying 150 = some (.int .u64)) ∧ (szOf Tryd.prog 169 = some 1) ∧ (aggB Tryd.prog 169 = some false) ∧ (zeroS Tryd.prog 169 = some (.d (.v (.int .i64 0)))) ∧ (Tryd.prog.underlying 169 = some (.int .i64)) := ⟨sz47, ag47, zr47, sz96, ag96, zr96, sz104, ag104, zr104, un104, sz150, ag150, zr150, un150, sz169, ag169, zr169, un169⟩
end Go.Proofs.YtiobdkibbhpojaaDoor
