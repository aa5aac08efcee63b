/- Facts on the types that the walks meet: sizes, zeros, fields, elements. -/
import Derived.Test.YtiobdkibbhpojaaDoorProg
import Derived.Test.YtiobdkibbhpojaaDoorSwB
set_option linter.unusedVariables false
namespace Go.Proofs.YtiobdkibbhpojaaDoor
open Go.Sw

theorem sz2 : szOf Tryd.prog 2 = some 1 := by kernel_rfl
theorem ag2 : aggB Tryd.prog 2 = some false := by kernel_rfl
theorem zr2 : zeroS Tryd.prog 2 = some (.d (.v (.int .i64 0))) := by kernel_rfl
theorem un2 : Tryd.prog.underlying 2 = some (.int .i64) := by kernel_rfl
theorem sz3 : szOf Tryd.prog 3 = some 1 := by kernel_rfl
theorem ag3 : aggB Tryd.prog 3 = some false := by kernel_rfl
theorem zr3 : zeroS Tryd.prog 3 = some (.d (.v (.int .i64 0))) := by kernel_rfl
theorem un3 : Tryd.prog.underlying 3 = some (.int .i64) := by kernel_rfl
theorem sz4 : szOf Tryd.prog 4 = some 1 := by kernel_rfl
theorem ag4 : aggB Tryd.prog 4 = some false := by kernel_rfl
theorem zr4 : zeroS Tryd.prog 4 = some (.d (.v (.bool false))) := by kernel_rfl
theorem sz5 : szOf Tryd.prog 5 = some 1 := by kernel_rfl
theorem ag5 : aggB Tryd.prog 5 = some false := by kernel_rfl
theorem zr5 : zeroS Tryd.prog 5 = some (.d (.v (.int .u8 0))) := by kernel_rfl
theorem un5 : Tryd.prog.underlying 5 = some (.int .u8) := by kernel_rfl
theorem sz9 : szOf Tryd.prog 9 = some 1 := by kernel_rfl
theorem ag9 : aggB Tryd.prog 9 = some false := by kernel_rfl
theorem zr9 : zeroS Tryd.prog 9 = some (.d (.v (.string ⟨#[]⟩))) := by kernel_rfl
theorem un9 : Tryd.prog.underlying 9 = some .string := by kernel_rfl
theorem sz21 : szOf Tryd.prog 21 = some 1 := by kernel_rfl
theorem ag21 : aggB Tryd.prog 21 = some false := by kernel_rfl
theorem zr21 : zeroS Tryd.prog 21 = some (.d (.v (.int .i32 0))) := by kernel_rfl
theorem un21 : Tryd.prog.underlying 21 = some (.int .i32) := by kernel_rfl
theorem sz23 : szOf Tryd.prog 23 = some 3 := by kernel_rfl
theorem ag23 : aggB Tryd.prog 23 = some true := by kernel_rfl
theorem zr23 : zeroS Tryd.prog 23 = some (.agg [.d (.v (.int .i64 0)), .d (.v (.int .i64 0)), .d (.v (.string ⟨#[]⟩))]) := by kernel_rfl
theorem pl23 : plcs Tryd.prog 23 = some [(0, 1), (1, 1), (2, 1)] := by kernel_rfl
theorem fl23_0 : fldOf Tryd.prog 23 0 = some (0, 1) := by kernel_rfl
theorem pt23_0 : partOf Tryd.prog 23 0 = some (0, 1) := by kernel_rfl
theorem fl23_1 : fldOf Tryd.prog 23 1 = some (1, 1) := by kernel_rfl
theorem pt23_1 : partOf Tryd.prog 23 1 = some (1, 1) := by kernel_rfl
theorem fl23_2 : fldOf Tryd.prog 23 2 = some (2, 1) := by kernel_rfl
theorem pt23_2 : partOf Tryd.prog 23 2 = some (2, 1) := by kernel_rfl
theorem sz24 : szOf Tryd.prog 24 = some 1 := by kernel_rfl
theorem ag24 : aggB Tryd.prog 24 = some false := by kernel_rfl
theorem zr24 : zeroS Tryd.prog 24 = some (.d (.v (.int .i64 0))) := by kernel_rfl
theorem un24 : Tryd.prog.underlying 24 = some (.int .i64) := by kernel_rfl
theorem sz33 : szOf Tryd.prog 33 = some 1 := by kernel_rfl
theorem ag33 : aggB Tryd.prog 33 = some false := by kernel_rfl
theorem zr33 : zeroS Tryd.prog 33 = some (.nil) := by kernel_rfl
theorem el33 : elemSz Tryd.prog 33 = some 6 := by kernel_rfl
theorem un33 : Tryd.prog.underlying 33 = some (.slice 35) := by kernel_rfl
theorem by33 : elemBy Tryd.prog 33 = some 80 := by kernel_rfl
theorem ez33 : elemZ Tryd.prog 33 = true := by kernel_rfl
theorem sz35 : szOf Tryd.prog 35 = some 6 := by kernel_rfl
theorem ag35 : aggB Tryd.prog 35 = some true := by kernel_rfl
theorem zr35 : zeroS Tryd.prog 35 = some (.agg [.d (.v (.int .i64 0)), .d (.v (.string ⟨#[]⟩)), .d (.v (.int .i64 0)), .d (.v (.int .i64 0)), .d (.v (.string ⟨#[]⟩)), .nil]) := by kernel_rfl
theorem pl35 : plcs Tryd.prog 35 = some [(0, 1), (1, 1), (2, 3), (5, 1)] := by kernel_rfl
theorem fl35_0 : fldOf Tryd.prog 35 0 = some (0, 1) := by kernel_rfl
theorem pt35_0 : partOf Tryd.prog 35 0 = some (0, 1) := by kernel_rfl
theorem fl35_1 : fldOf Tryd.prog 35 1 = some (1, 1) := by kernel_rfl
theorem pt35_1 : partOf Tryd.prog 35 1 = some (1, 1) := by kernel_rfl
theorem fl35_2 : fldOf Tryd.prog 35 2 = some (2, 3) := by kernel_rfl
theorem pt35_2 : partOf Tryd.prog 35 2 = some (2, 3) := by kernel_rfl
theorem fl35_3 : fldOf Tryd.prog 35 3 = some (5, 1) := by kernel_rfl
theorem pt35_3 : partOf Tryd.prog 35 3 = some (5, 1) := by kernel_rfl
theorem sz36 : szOf Tryd.prog 36 = some 1 := by kernel_rfl
theorem ag36 : aggB Tryd.prog 36 = some false := by kernel_rfl
theorem zr36 : zeroS Tryd.prog 36 = some (.nil) := by kernel_rfl
theorem el36 : elemSz Tryd.prog 36 = some 4 := by kernel_rfl
theorem un36 : Tryd.prog.underlying 36 = some (.slice 45) := by kernel_rfl
theorem by36 : elemBy Tryd.prog 36 = some 48 := by kernel_rfl
theorem ez36 : elemZ Tryd.prog 36 = true := by kernel_rfl
theorem sz38 : szOf Tryd.prog 38 = some 1 := by kernel_rfl
theorem ag38 : aggB Tryd.prog 38 = some false := by kernel_rfl
theorem zr38 : zeroS Tryd.prog 38 = some (.nil) := by kernel_rfl
theorem el38 : elemSz Tryd.prog 38 = some 1 := by kernel_rfl
theorem un38 : Tryd.prog.underlying 38 = some (.slice 9) := by kernel_rfl
theorem by38 : elemBy Tryd.prog 38 = some 16 := by kernel_rfl
theorem ez38 : elemZ Tryd.prog 38 = true := by kernel_rfl
theorem sz39 : szOf Tryd.prog 39 = some 1 := by kernel_rfl
theorem ag39 : aggB Tryd.prog 39 = some false := by kernel_rfl
theorem zr39 : zeroS Tryd.prog 39 = some (.nil) := by kernel_rfl
theorem el39 : elemSz Tryd.prog 39 = some 1 := by kernel_rfl
theorem un39 : Tryd.prog.underlying 39 = some (.slice 3) := by kernel_rfl
theorem by39 : elemBy Tryd.prog 39 = some 8 := by kernel_rfl
theorem ez39 : elemZ Tryd.prog 39 = true := by kernel_rfl
theorem sz45 : szOf Tryd.prog 45 = some 4 := by kernel_rfl
theorem ag45 : aggB Tryd.prog 45 = some true := by kernel_rfl
theorem zr45 : zeroS Tryd.prog 45 = some (.agg [.d (.v (.string ⟨#[]⟩)), .d (.v (.int .i64 0)), .d (.v (.int .i64 0)), .d (.v (.string ⟨#[]⟩))]) := by kernel_rfl
theorem pl45 : plcs Tryd.prog 45 = some [(0, 1), (1, 3)] := by kernel_rfl
theorem fl45_0 : fldOf Tryd.prog 45 0 = some (0, 1) := by kernel_rfl
theorem pt45_0 : partOf Tryd.prog 45 0 = some (0, 1) := by kernel_rfl
theorem fl45_1 : fldOf Tryd.prog 45 1 = some (1, 3) := by kernel_rfl
theorem pt45_1 : partOf Tryd.prog 45 1 = some (1, 3) := by kernel_rfl
theorem sz77 : szOf Tryd.prog 77 = some 1 := by kernel_rfl
theorem ag77 : aggB Tryd.prog 77 = some false := by kernel_rfl
theorem zr77 : zeroS Tryd.prog 77 = some (.nil) := by kernel_rfl
theorem el77 : elemSz Tryd.prog 77 = some 1 := by kernel_rfl
theorem un77 : Tryd.prog.underlying 77 = some (.slice 21) := by kernel_rfl
theorem by77 : elemBy Tryd.prog 77 = some 4 := by kernel_rfl
theorem ez77 : elemZ Tryd.prog 77 = true := by kernel_rfl
theorem sz120 : szOf Tryd.prog 120 = some 1 := by kernel_rfl
theorem ag120 : aggB Tryd.prog 120 = some false := by kernel_rfl
theorem zr120 : zeroS Tryd.prog 120 = some (.d (.v (.pointer none))) := by kernel_rfl
/-- All of them. -/
theorem XTS : (szOf Tryd.prog 2 = some 1) ∧ (aggB Tryd.prog 2 = some false) ∧ (zeroS Tryd.prog 2 = some (.d (.v (.int .i64 0)))) ∧ (Tryd.prog.underlying 2 = some (.int .i64)) ∧ (szOf Tryd.prog 3 = some 1) ∧ (aggB Tryd.prog 3 = some false) ∧ (zeroS Tryd.prog 3 = some (.d (.v (.int .i64 0)))) ∧ (Tryd.prog.underlying 3 = some (.int .i64)) ∧ (szOf Tryd.prog 4 = some 1) ∧ (aggB Tryd.prog 4 = some false) ∧ (zeroS Tryd.prog 4 = some (.d (.v (.bool false)))) ∧ (szOf Tryd.prog 5 = some 1) ∧ (aggB Tryd.prog 5 = some false) ∧ (zeroS Tryd.prog 5 = some (.d (.v (.int .u8 0)))) ∧ (Tryd.prog.underlying 5 = some (.int .u8)) ∧ (szOf Tryd.prog 9 = some 1) ∧ (aggB Tryd.prog 9 = some false) ∧ (zeroS Tryd.prog 9 = some (.d (.v (.string ⟨#[]⟩)))) ∧ (Tryd.prog.underlying 9 = some .string) ∧ (szOf Tryd.prog 21 = some 1) ∧ (aggB Tryd.prog 21 = some false) ∧ (zeroS Tryd.prog 21 = some (.d (.v (.int .i32 0)))) ∧ (Tryd.prog.underlying 21 = some (.int .i32)) ∧ (szOf Tryd.prog 23 = some 3) ∧ (aggB Tryd.prog 23 = some true) ∧ (zeroS Tryd.prog 23 = some (.agg [.d (.v (.int .i64 0)), .d (.v (.int .i64 0)), .d (.v (.string ⟨#[]⟩))])) ∧ (plcs Tryd.prog 23 = some [(0, 1), (1, 1), (2, 1)]) ∧ (fldOf Tryd.prog 23 0 = some (0, 1)) ∧ (partOf Tryd.prog 23 0 = some (0, 1)) ∧ (fldOf Tryd.prog 23 1 = some (1, 1)) ∧ (partOf Tryd.prog 23 1 = some (1, 1)) ∧ (fldOf Tryd.prog 23 2 = some (2, 1)) ∧ (partOf Tryd.prog 23 2 = some (2, 1)) ∧ (szOf Tryd.prog 24 = some 1) ∧ (aggB Tryd.prog 24 = some false) ∧ (zeroS Tryd.prog 24 = some (.d (.v (.int .i64 0)))) ∧ (Tryd.prog.underlying 24 = some (.int .i64)) ∧ (szOf Tryd.prog 33 = some 1) ∧ (aggB Tryd.prog 33 = some false) ∧ (zeroS Tryd.prog 33 = some (.nil)) ∧ (elemSz Tryd.prog 33 = some 6) ∧ (Tryd.prog.underlying 33 = some (.slice 35)) ∧ (elemBy Tryd.prog 33 = some 80) ∧ (elemZ Tryd.prog 33 = true) ∧ (szOf Tryd.prog 35 = some 6) ∧ (aggB Tryd.prog 35 = some true) ∧ (zeroS Tryd.prog 35 = some (.agg [.d (.v (.int .i64 0)), .d (.v (.string ⟨#[]⟩)), .d (.v (.int .i64 0)), .d (.v (.int .i64 0)), .d (.v (.string ⟨#[]⟩)), .nil])) ∧ (plcs Tryd.prog 35 = some [(0, 1), (1, 1), (2, 3), (5, 1)]) ∧ (fldOf Tryd.prog 35 0 = some (0, 1)) ∧ (partOf Tryd.prog 35 0 = some (0, 1)) ∧ (fldOf Tryd.prog 35 1 = some (1, 1)) ∧ (partOf Tryd.prog 35 1 = some (1, 1)) ∧ (fldOf Tryd.prog 35 2 = some (2, 3)) ∧ (partOf Tryd.prog 35 2 = some (2, 3)) ∧ (fldOf Tryd.prog 35 3 = some (5, 1)) ∧ (partOf Tryd.prog 35 3 = some (5, 1)) ∧ (szOf Tryd.prog 36 = some 1) ∧ (aggB Tryd.prog 36 = some false) ∧ (zeroS Tryd.prog 36 = some (.nil)) ∧ (elemSz Tryd.prog 36 = some 4) ∧ (Tryd.prog.underlying 36 = some (.slice 45)) ∧ (elemBy Tryd.prog 36 = some 48) ∧ (elemZ Tryd.prog 36 = true) ∧ (szOf Tryd.prog 38 = some 1) ∧ (aggB Tryd.prog 38 = some false) ∧ (zeroS Tryd.prog 38 = some (.nil)) ∧ (elemSz Tryd.prog 38 = some 1) ∧ (Tryd.prog.underlying 38 = some (.slice 9)) ∧ (elemBy Tryd.prog 38 = some 16) ∧ (elemZ Tryd.prog 38 = true) ∧ (szOf Tryd.prog 39 = some 1) ∧ (aggB Tryd.prog 39 = some false) ∧ (zeroS Tryd.prog 39 = some (.nil)) ∧ (elemSz Tryd.prog 39 = some 1) ∧ (Tryd.prog.underlying 39 = some (.slice 3)) ∧ (elemBy Tryd.prog 39 = some 8) ∧ (elemZ Tryd.prog 39 = true) ∧ (szOf Tryd.prog 45 = some 4) ∧ (aggB Tryd.prog 45 = some true) ∧ (zeroS Tryd.prog 45 = some (.agg [.d (.v (.string ⟨#[]⟩)), .d (.v (.int .i64 0)), .d (.v (.int .i64 0)), .d (.v (.string ⟨#[]⟩))])) ∧ (plcs Tryd.prog 45 = some [(0, 1), (1, 3)]) ∧ (fldOf Tryd.prog 45 0 = some (0, 1)) ∧ (partOf Tryd.prog 45 0 = some (0, 1)) ∧ (fldOf Tryd.prog 45 1 = some (1, 3)) ∧ (partOf Tryd.prog 45 1 = some (1, 3)) ∧ (szOf Tryd.prog 77 = some 1) ∧ (aggB Tryd.prog 77 = some false) ∧ (zeroS Tryd.prog 77 = some (.nil)) ∧ (elemSz Tryd.prog 77 = some 1) ∧ (Tryd.prog.underlying 77 = some (.slice 21)) ∧ (elemBy Tryd.prog 77 = some 4) ∧ (elemZ Tryd.prog 77 = true) ∧ (szOf Tryd.prog 120 = some 1) ∧ (aggB Tryd.prog 120 = some false) ∧ (zeroS Tryd.prog 120 = some (.d (.v (.pointer none)))) := ⟨sz2, ag2, zr2, un2, sz3, ag3, zr3, un3, sz4, ag4, zr4, sz5, ag5, zr5, un5, sz9, ag9, zr9, un9, sz21, ag21, zr21, un21, sz23, ag23, zr23, pl23, fl23_0, pt23_0, fl23_1, pt23_1, fl23_2, pt23_2, sz24, ag24, zr24, un24, sz33, ag33, zr33, el33, un33, by33, ez33, sz35, ag35, zr35, pl35, fl35_0, pt35_0, fl35_1, pt35_1, fl35_2, pt35_2, fl35_3, pt35_3, sz36, ag36, zr36, el36, un36, by36, ez36, sz38, ag38, zr38, el38, un38, by38, ez38, sz39, ag39, zr39, el39, un39, by39, ez39, sz45, ag45, zr45, pl45, fl45_0, pt45_0, fl45_1, pt45_1, sz77, ag77, zr77, el77, un77, by77, ez77, sz120, ag120, zr120⟩
end Go.Proofs.YtiobdkibbhpojaaDoor
