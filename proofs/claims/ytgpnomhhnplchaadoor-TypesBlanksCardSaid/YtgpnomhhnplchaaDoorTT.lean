/- Facts on the types that the walks meet: sizes, zeros, fields, elements. -/
import Derived.Test.YtgpnomhhnplchaaDoorProg
import Derived.Test.YtgpnomhhnplchaaDoorSwB
set_option linter.unusedVariables false
namespace Go.Proofs.YtgpnomhhnplchaaDoor
open Go.Sw

theorem sz3 : szOf Tryd.prog 3 = some 1 := by kernel_rfl
theorem ag3 : aggB Tryd.prog 3 = some false := by kernel_rfl
theorem zr3 : zeroS Tryd.prog 3 = some (.d (.v (.int .i64 0))) := by kernel_rfl
theorem un3 : Tryd.prog.underlying 3 = some (.int .i64) := by kernel_rfl
theorem sz4 : szOf Tryd.prog 4 = some 1 := by kernel_rfl
theorem ag4 : aggB Tryd.prog 4 = some false := by kernel_rfl
theorem zr4 : zeroS Tryd.prog 4 = some (.d (.v (.bool false))) := by kernel_rfl
theorem sz5 : szOf Tryd.prog 5 = some 1 := by kernel_rfl
theorem ag5 : aggB Tryd.prog 5 = some false := by kernel_rfl
theorem zr5 : zeroS Tryd.prog 5 = some (.d (.v (.int .u8 0))) := by kernel_rfl
theorem un5 : Tryd.prog.underlying 5 = some (.int .u8) := by kernel_rfl
theorem sz9 : szOf Tryd.prog 9 = some 1 := by kernel_rfl
theorem ag9 : aggB Tryd.prog 9 = some false := by kernel_rfl
theorem zr9 : zeroS Tryd.prog 9 = some (.d (.v (.string ⟨#[]⟩))) := by kernel_rfl
theorem un9 : Tryd.prog.underlying 9 = some .string := by kernel_rfl
theorem sz21 : szOf Tryd.prog 21 = some 1 := by kernel_rfl
theorem ag21 : aggB Tryd.prog 21 = some false := by kernel_rfl
theorem zr21 : zeroS Tryd.prog 21 = some (.d (.v (.int .i32 0))) := by kernel_rfl
theorem un21 : Tryd.prog.underlying 21 = some (.int .i32) := by kernel_rfl
theorem sz22 : szOf Tryd.prog 22 = some 1 := by kernel_rfl
theorem ag22 : aggB Tryd.prog 22 = some false := by kernel_rfl
theorem zr22 : zeroS Tryd.prog 22 = some (.nil) := by kernel_rfl
theorem el22 : elemSz Tryd.prog 22 = some 1 := by kernel_rfl
theorem un22 : Tryd.prog.underlying 22 = some (.slice 9) := by kernel_rfl
theorem by22 : elemBy Tryd.prog 22 = some 16 := by kernel_rfl
theorem ez22 : elemZ Tryd.prog 22 = true := by kernel_rfl
theorem sz26 : szOf Tryd.prog 26 = some 1 := by kernel_rfl
theorem ag26 : aggB Tryd.prog 26 = some false := by kernel_rfl
theorem zr26 : zeroS Tryd.prog 26 = some (.d (.v (.int .i64 0))) := by kernel_rfl
theorem un26 : Tryd.prog.underlying 26 = some (.int .i64) := by kernel_rfl
theorem sz27 : szOf Tryd.prog 27 = some 1 := by kernel_rfl
theorem ag27 : aggB Tryd.prog 27 = some false := by kernel_rfl
-- no zero of 27: tuple tuple 2 string x int i64 0 0
theorem sz30 : szOf Tryd.prog 30 = some 2 := by kernel_rfl
theorem ag30 : aggB Tryd.prog 30 = some true := by kernel_rfl
theorem zr30 : zeroS Tryd.prog 30 = some (.agg [.d (.v (.int .i64 0)), .d (.v (.int .i64 0))]) := by kernel_rfl
theorem pl30 : plcs Tryd.prog 30 = some [(0, 1), (1, 1)] := by kernel_rfl
theorem fl30_0 : fldOf Tryd.prog 30 0 = some (0, 1) := by kernel_rfl
theorem pt30_0 : partOf Tryd.prog 30 0 = some (0, 1) := by kernel_rfl
theorem fl30_1 : fldOf Tryd.prog 30 1 = some (1, 1) := by kernel_rfl
theorem pt30_1 : partOf Tryd.prog 30 1 = some (1, 1) := by kernel_rfl
theorem sz35 : szOf Tryd.prog 35 = some 1 := by kernel_rfl
theorem ag35 : aggB Tryd.prog 35 = some false := by kernel_rfl
theorem zr35 : zeroS Tryd.prog 35 = some (.nil) := by kernel_rfl
theorem el35 : elemSz Tryd.prog 35 = some 5 := by kernel_rfl
theorem un35 : Tryd.prog.underlying 35 = some (.slice 37) := by kernel_rfl
theorem by35 : elemBy Tryd.prog 35 = some 80 := by kernel_rfl
theorem ez35 : elemZ Tryd.prog 35 = true := by kernel_rfl
theorem sz37 : szOf Tryd.prog 37 = some 5 := by kernel_rfl
theorem ag37 : aggB Tryd.prog 37 = some true := by kernel_rfl
theorem zr37 : zeroS Tryd.prog 37 = some (.agg [.d (.v (.int .i64 0)), .d (.v (.int .i64 0)), .d (.v (.string ⟨#[]⟩)), .nil, .nil]) := by kernel_rfl
theorem pl37 : plcs Tryd.prog 37 = some [(0, 1), (1, 1), (2, 1), (3, 1), (4, 1)] := by kernel_rfl
theorem fl37_0 : fldOf Tryd.prog 37 0 = some (0, 1) := by kernel_rfl
theorem pt37_0 : partOf Tryd.prog 37 0 = some (0, 1) := by kernel_rfl
theorem fl37_1 : fldOf Tryd.prog 37 1 = some (1, 1) := by kernel_rfl
theorem pt37_1 : partOf Tryd.prog 37 1 = some (1, 1) := by kernel_rfl
theorem fl37_2 : fldOf Tryd.prog 37 2 = some (2, 1) := by kernel_rfl
theorem pt37_2 : partOf Tryd.prog 37 2 = some (2, 1) := by kernel_rfl
theorem fl37_3 : fldOf Tryd.prog 37 3 = some (3, 1) := by kernel_rfl
theorem pt37_3 : partOf Tryd.prog 37 3 = some (3, 1) := by kernel_rfl
theorem fl37_4 : fldOf Tryd.prog 37 4 = some (4, 1) := by kernel_rfl
theorem pt37_4 : partOf Tryd.prog 37 4 = some (4, 1) := by kernel_rfl
theorem sz39 : szOf Tryd.prog 39 = some 1 := by kernel_rfl
theorem ag39 : aggB Tryd.prog 39 = some false := by kernel_rfl
-- no zero of 39: tuple tuple 2 agg 5 int i64 0 int
theorem sz42 : szOf Tryd.prog 42 = some 1 := by kernel_rfl
theorem ag42 : aggB Tryd.prog 42 = some false := by kernel_rfl
-- no zero of 42: tuple tuple 2 int i64 0 int i64 0
theorem sz74 : szOf Tryd.prog 74 = some 1 := by kernel_rfl
theorem ag74 : aggB Tryd.prog 74 = some false := by kernel_rfl
-- no zero of 74: tuple tuple 3 agg 5 int i64 0 int
theorem sz103 : szOf Tryd.prog 103 = some 1 := by kernel_rfl
theorem ag103 : aggB Tryd.prog 103 = some false := by kernel_rfl
theorem zr103 : zeroS Tryd.prog 103 = some (.d (.v (.pointer none))) := by kernel_rfl
theorem sz112 : szOf Tryd.prog 112 = some 1 := by kernel_rfl
theorem ag112 : aggB Tryd.prog 112 = some false := by kernel_rfl
theorem zr112 : zeroS Tryd.prog 112 = some (.d (.v (.pointer none))) := by kernel_rfl
theorem sz114 : szOf Tryd.prog 114 = some 2 := by kernel_rfl
theorem ag114 : aggB Tryd.prog 114 = some true := by kernel_rfl
theorem zr114 : zeroS Tryd.prog 114 = some (.agg [.d (.v (.string ⟨#[]⟩)), .d (.v (.int .i64 0))]) := by kernel_rfl
theorem pl114 : plcs Tryd.prog 114 = some [(0, 1), (1, 1)] := by kernel_rfl
theorem fl114_0 : fldOf Tryd.prog 114 0 = some (0, 1) := by kernel_rfl
theorem pt114_0 : partOf Tryd.prog 114 0 = some (0, 1) := by kernel_rfl
theorem fl114_1 : fldOf Tryd.prog 114 1 = some (1, 1) := by kernel_rfl
theorem pt114_1 : partOf Tryd.prog 114 1 = some (1, 1) := by kernel_rfl
theorem sz115 : szOf Tryd.prog 115 = some 2 := by kernel_rfl
theorem ag115 : aggB Tryd.prog 115 = some true := by kernel_rfl
theorem zr115 : zeroS Tryd.prog 115 = some (.agg [.d (.v (.int .i64 0)), .d (.v (.int .i64 0))]) := by kernel_rfl
theorem pl115 : plcs Tryd.prog 115 = some [(0, 2)] := by kernel_rfl
theorem fl115_0 : fldOf Tryd.prog 115 0 = some (0, 2) := by kernel_rfl
theorem pt115_0 : partOf Tryd.prog 115 0 = some (0, 2) := by kernel_rfl
/-- All of them. -/
theorem TTS : (szOf Tryd.prog 3 = some 1) ∧ (aggB Tryd.prog 3 = some false) ∧ (zeroS Tryd.prog 3 = some (.d (.v (.int .i64 0)))) ∧ (Tryd.prog.underlying 3 = some (.int .i64)) ∧ (szOf Tryd.prog 4 = some 1) ∧ (aggB Tryd.prog 4 = some false) ∧ (zeroS Tryd.prog 4 = some (.d (.v (.bool false)))) ∧ (szOf Tryd.prog 5 = some 1) ∧ (aggB Tryd.prog 5 = some false) ∧ (zeroS Tryd.prog 5 = some (.d (.v (.int .u8 0)))) ∧ (Tryd.prog.underlying 5 = some (.int .u8)) ∧ (szOf Tryd.prog 9 = some 1) ∧ (aggB Tryd.prog 9 = some false) ∧ (zeroS Tryd.prog 9 = some (.d (.v (.string ⟨#[]⟩)))) ∧ (Tryd.prog.underlying 9 = some .string) ∧ (szOf Tryd.prog 21 = some 1) ∧ (aggB Tryd.prog 21 = some false) ∧ (zeroS Tryd.prog 21 = some (.d (.v (.int .i32 0)))) ∧ (Tryd.prog.underlying 21 = some (.int .i32)) ∧ (szOf Tryd.prog 22 = some 1) ∧ (aggB Tryd.prog 22 = some false) ∧ (zeroS Tryd.prog 22 = some (.nil)) ∧ (elemSz Tryd.prog 22 = some 1) ∧ (Tryd.prog.underlying 22 = some (.slice 9)) ∧ (elemBy Tryd.prog 22 = some 16) ∧ (elemZ Tryd.prog 22 = true) ∧ (szOf Tryd.prog 26 = some 1) ∧ (aggB Tryd.prog 26 = some false) ∧ (zeroS Tryd.prog 26 = some (.d (.v (.int .i64 0)))) ∧ (Tryd.prog.underlying 26 = some (.int .i64)) ∧ (szOf Tryd.prog 27 = some 1) ∧ (aggB Tryd.prog 27 = some false) ∧ (szOf Tryd.prog 30 = some 2) ∧ (aggB Tryd.prog 30 = some true) ∧ (zeroS Tryd.prog 30 = some (.agg [.d (.v (.int .i64 0)), .d (.v (.int .i64 0))])) ∧ (plcs Tryd.prog 30 = some [(0, 1), (1, 1)]) ∧ (fldOf Tryd.prog 30 0 = some (0, 1)) ∧ (partOf Tryd.prog 30 0 = some (0, 1)) ∧ (fldOf Tryd.prog 30 1 = some (1, 1)) ∧ (partOf Tryd.prog 30 1 = some (1, 1)) ∧ (szOf Tryd.prog 35 = some 1) ∧ (aggB Tryd.prog 35 = some false) ∧ (zeroS Tryd.prog 35 = some (.nil)) ∧ (elemSz Tryd.prog 35 = some 5) ∧ (Tryd.prog.underlying 35 = some (.slice 37)) ∧ (elemBy Tryd.prog 35 = some 80) ∧ (elemZ Tryd.prog 35 = true) ∧ (szOf Tryd.prog 37 = some 5) ∧ (aggB Tryd.prog 37 = some true) ∧ (zeroS Tryd.prog 37 = some (.agg [.d (.v (.int .i64 0)), .d (.v (.int .i64 0)), .d (.v (.string ⟨#[]⟩)), .nil, .nil])) ∧ (plcs Tryd.prog 37 = some [(0, 1), (1, 1), (2, 1), (3, 1), (4, 1)]) ∧ (fldOf Tryd.prog 37 0 = some (0, 1)) ∧ (partOf Tryd.prog 37 0 = some (0, 1)) ∧ (fldOf Tryd.prog 37 1 = some (1, 1)) ∧ (partOf Tryd.prog 37 1 = some (1, 1)) ∧ (fldOf Tryd.prog 37 2 = some (2, 1)) ∧ (partOf Tryd.prog 37 2 = some (2, 1)) ∧ (fldOf Tryd.prog 37 3 = some (3, 1)) ∧ (partOf Tryd.prog 37 3 = some (3, 1)) ∧ (fldOf Tryd.prog 37 4 = some (4, 1)) ∧ (partOf Tryd.prog 37 4 = some (4, 1)) ∧ (szOf Tryd.prog 39 = some 1) ∧ (aggB Tryd.prog 39 = some false) ∧ (szOf Tryd.prog 42 = some 1) ∧ (aggB Tryd.prog 42 = some false) ∧ (szOf Tryd.prog 74 = some 1) ∧ (aggB Tryd.prog 74 = some false) ∧ (szOf Tryd.prog 103 = some 1) ∧ (aggB Tryd.prog 103 = some false) ∧ (zeroS Tryd.prog 103 = some (.d (.v (.pointer none)))) ∧ (szOf Tryd.prog 112 = some 1) ∧ (aggB Tryd.prog 112 = some false) ∧ (zeroS Tryd.prog 112 = some (.d (.v (.pointer none)))) ∧ (szOf Tryd.prog 114 = some 2) ∧ (aggB Tryd.prog 114 = some true) ∧ (zeroS Tryd.prog 114 = some (.agg [.d (.v (.string ⟨#[]⟩)), .d (.v (.int .i64 0))])) ∧ (plcs Tryd.prog 114 = some [(0, 1), (1, 1)]) ∧ (fldOf Tryd.prog 114 0 = some (0, 1)) ∧ (partOf Tryd.prog 114 0 = some (0, 1)) ∧ (fldOf Tryd.prog 114 1 = some (1, 1)) ∧ (partOf Tryd.prog 114 1 = some (1, 1)) ∧ (szOf Tryd.prog 115 = some 2) ∧ (aggB Tryd.prog 115 = some true) ∧ (zeroS Tryd.prog 115 = some (.agg [.d (.v (.int .i64 0)), .d (.v (.int .i64 0))])) ∧ (plcs Tryd.prog 115 = some [(0, 2)]) ∧ (fldOf Tryd.prog 115 0 = some (0, 2)) ∧ (partOf Tryd.prog 115 0 = some (0, 2)) := ⟨sz3, ag3, zr3, un3, sz4, ag4, zr4, sz5, ag5, zr5, un5, sz9, ag9, zr9, un9, sz21, ag21, zr21, un21, sz22, ag22, zr22, el22, un22, by22, ez22, sz26, ag26, zr26, un26, sz27, ag27, sz30, ag30, zr30, pl30, fl30_0, pt30_0, fl30_1, pt30_1, sz35, ag35, zr35, el35, un35, by35, ez35, sz37, ag37, zr37, pl37, fl37_0, pt37_0, fl37_1, pt37_1, fl37_2, pt37_2, fl37_3, pt37_3, fl37_4, pt37_4, sz39, ag39, sz42, ag42, sz74, ag74, sz103, ag103, zr103, sz112, ag112, zr112, sz114, ag114, zr114, pl114, fl114_0, pt114_0, fl114_1, pt114_1, sz115, ag115, zr115, pl115, fl115_0, pt115_0⟩
end Go.Proofs.YtgpnomhhnplchaaDoor
