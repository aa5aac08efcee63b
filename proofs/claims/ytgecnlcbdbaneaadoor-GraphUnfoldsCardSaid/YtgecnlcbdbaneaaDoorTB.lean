/- Facts on the types that the walks meet: sizes, zeros, fields, elements. -/

import Derived.Test.YtgecnlcbdbaneaaDoorTA
set_option linter.unusedVariables false
set_option maxRecDepth 100000
namespace Go.Proofs.YtgecnlcbdbaneaaDoor
open Go.Sw

theorem sz42 : szOf Tryd.prog 42 = some 1 := by kernel_rfl
theorem ag42 : aggB Tryd.prog 42 = some false := by kernel_rfl
-- no zero of 42: tuple tuple 2 agg 5 int i64 0 int
theorem sz56 : szOf Tryd.prog 56 = some 1 := by kernel_rfl
theorem ag56 : aggB Tryd.prog 56 = some false := by kernel_rfl
theorem zr56 : zeroS Tryd.prog 56 = some (.d (.v .nilFunc)) := by kernel_rfl
theorem sz69 : szOf Tryd.prog 69 = some 1 := by kernel_rfl
theorem ag69 : aggB Tryd.prog 69 = some false := by kernel_rfl
theorem zr69 : zeroS Tryd.prog 69 = some (.nil) := by kernel_rfl
theorem el69 : elemSz Tryd.prog 69 = some 1 := by kernel_rfl
theorem un69 : Tryd.prog.underlying 69 = some (.slice 56) := by kernel_rfl
theorem by69 : elemBy Tryd.prog 69 = some 8 := by kernel_rfl
theorem ez69 : elemZ Tryd.prog 69 = true := by kernel_rfl
theorem sz79 : szOf Tryd.prog 79 = some 1 := by kernel_rfl
theorem ag79 : aggB Tryd.prog 79 = some false := by kernel_rfl
theorem zr79 : zeroS Tryd.prog 79 = some (.d (.v (.pointer none))) := by kernel_rfl
theorem sz100 : szOf Tryd.prog 100 = some 6 := by kernel_rfl
theorem ag100 : aggB Tryd.prog 100 = some true := by kernel_rfl
theorem zr100 : zeroS Tryd.prog 100 = some (.agg [.d (.v (.int .i64 0)), .d (.v (.int .i64 0)), .d (.v (.string ⟨#[]⟩)), .nil, .nil, .nil]) := by kernel_rfl
theorem pl100 : plcs Tryd.prog 100 = some [(0, 5), (5, 1)] := by kernel_rfl
theorem fl100_0 : fldOf Tryd.prog 100 0 = some (0, 5) := by kernel_rfl
theorem pt100_0 : partOf Tryd.prog 100 0 = some (0, 5) := by kernel_rfl
theorem fl100_1 : fldOf Tryd.prog 100 1 = some (5, 1) := by kernel_rfl
theorem pt100_1 : partOf Tryd.prog 100 1 = some (5, 1) := by kernel_rfl
theorem sz101 : szOf Tryd.prog 101 = some 1 := by kernel_rfl
theorem ag101 : aggB Tryd.prog 101 = some false := by kernel_rfl
theorem zr101 : zeroS Tryd.prog 101 = some (.nil) := by kernel_rfl
theorem el101 : elemSz Tryd.prog 101 = some 6 := by kernel_rfl
theorem un101 : Tryd.prog.underlying 101 = some (.slice 100) := by kernel_rfl
theorem by101 : elemBy Tryd.prog 101 = some 104 := by kernel_rfl
theorem ez101 : elemZ Tryd.prog 101 = true := by kernel_rfl
/-- All of them. -/
theorem TBS : (szOf Tryd.prog 42 = some 1) ∧ (aggB Tryd.prog 42 = some false) ∧ (szOf Tryd.prog 56 = some 1) ∧ (aggB Tryd.prog 56 = some false) ∧ (zeroS Tryd.prog 56 = some (.d (.v .nilFunc))) ∧ (szOf Tryd.prog 69 = some 1) ∧ (aggB Tryd.prog 69 = some false) ∧ (zeroS Tryd.prog 69 = some (.nil)) ∧ (elemSz Tryd.prog 69 = some 1) ∧ (Tryd.prog.underlying 69 = some (.slice 56)) ∧ (elemBy Tryd.prog 69 = some 8) ∧ (elemZ Tryd.prog 69 = true) ∧ (szOf Tryd.prog 79 = some 1) ∧ (aggB Tryd.prog 79 = some false) ∧ (zeroS Tryd.prog 79 = some (.d (.v (.pointer none)))) ∧ (szOf Tryd.prog 100 = some 6) ∧ (aggB Tryd.prog 100 = some true) ∧ (zeroS Tryd.prog 100 = some (.agg [.d (.v (.int .i64 0)), .d (.v (.int .i64 0)), .d (.v (.string ⟨#[]⟩)), .nil, .nil, .nil])) ∧ (plcs Tryd.prog 100 = some [(0, 5), (5, 1)]) ∧ (fldOf Tryd.prog 100 0 = some (0, 5)) ∧ (partOf Tryd.prog 100 0 = some (0, 5)) ∧ (fldOf Tryd.prog 100 1 = some (5, 1)) ∧ (partOf Tryd.prog 100 1 = some (5, 1)) ∧ (szOf Tryd.prog 101 = some 1) ∧ (aggB Tryd.prog 101 = some false) ∧ (zeroS Tryd.prog 101 = some (.nil)) ∧ (elemSz Tryd.prog 101 = some 6) ∧ (Tryd.prog.underlying 101 = some (.slice 100)) ∧ (elemBy Tryd.prog 101 = some 104) ∧ (elemZ Tryd.prog 101 = true) := ⟨sz42, ag42, sz56, ag56, zr56, sz69, ag69, zr69, el69, un69, by69, ez69, sz79, ag79, zr79, sz100, ag100, zr100, pl100, fl100_0, pt100_0, fl100_1, pt100_1, sz101, ag101, zr101, el101, un101, by101, ez101⟩
end Go.Proofs.YtgecnlcbdbaneaaDoor
