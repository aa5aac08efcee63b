/- Facts on the types that the walks meet: sizes, zeros, fields, elements. -/

import Derived.Test.YtnclmjbkkgghhaaDoorTA
set_option linter.unusedVariables false
set_option maxRecDepth 100000
namespace Go.Proofs.YtnclmjbkkgghhaaDoor
open Go.Sw

theorem sz31 : szOf Tryd.prog 31 = some 1:=by kernel_rfl
theorem ag31 : aggB Tryd.prog 31 = some false:=by kernel_rfl
-- no zero of 31: tuple tuple 2 agg 5 int i64 0 int
theorem sz37 : szOf Tryd.prog 37 = some 1:=by kernel_rfl
theorem ag37 : aggB Tryd.prog 37 = some false:=by kernel_rfl
theorem zr37 : zeroS Tryd.prog 37 = some (.d (.v .nilFunc)):=by kernel_rfl
theorem sz38 : szOf Tryd.prog 38 = some 1:=by kernel_rfl
theorem ag38 : aggB Tryd.prog 38 = some false:=by kernel_rfl
theorem zr38 : zeroS Tryd.prog 38 = some (.nil):=by kernel_rfl
theorem el38 : elemSz Tryd.prog 38 = some 1:=by kernel_rfl
theorem un38 : Tryd.prog.underlying 38 = some (.slice 37):=by kernel_rfl
theorem by38 : elemBy Tryd.prog 38 = some 8:=by kernel_rfl
theorem ez38 : elemZ Tryd.prog 38 = true:=by kernel_rfl
theorem sz54 : szOf Tryd.prog 54 = some 6:=by kernel_rfl
theorem ag54 : aggB Tryd.prog 54 = some true:=by kernel_rfl
theorem zr54 : zeroS Tryd.prog 54 = some (.agg [.d (.v (.int .i64 0)),.d (.v (.int .i64 0)),.d (.v (.string ⟨#[]⟩)),.nil,.nil,.nil]):=by kernel_rfl
theorem pl54 : plcs Tryd.prog 54 = some [(0,5),(5,1)]:=by kernel_rfl
theorem fl54_0 : fldOf Tryd.prog 54 0 = some (0,5):=by kernel_rfl
theorem pt54_0 : partOf Tryd.prog 54 0 = some (0,5):=by kernel_rfl
theorem fl54_1 : fldOf Tryd.prog 54 1 = some (5,1):=by kernel_rfl
theorem pt54_1 : partOf Tryd.prog 54 1 = some (5,1):=by kernel_rfl
theorem sz55 : szOf Tryd.prog 55 = some 1:=by kernel_rfl
theorem ag55 : aggB Tryd.prog 55 = some false:=by kernel_rfl
theorem zr55 : zeroS Tryd.prog 55 = some (.nil):=by kernel_rfl
theorem el55 : elemSz Tryd.prog 55 = some 6:=by kernel_rfl
theorem un55 : Tryd.prog.underlying 55 = some (.slice 54):=by kernel_rfl
theorem by55 : elemBy Tryd.prog 55 = some 104:=by kernel_rfl
theorem ez55 : elemZ Tryd.prog 55 = true:=by kernel_rfl
theorem sz69 : szOf Tryd.prog 69 = some 1:=by kernel_rfl
theorem ag69 : aggB Tryd.prog 69 = some false:=by kernel_rfl
theorem zr69 : zeroS Tryd.prog 69 = some (.d (.v (.pointer none))):=by kernel_rfl
/-- All of them. -/
theorem TBS : (szOf Tryd.prog 31 = some 1) ∧ (aggB Tryd.prog 31 = some false) ∧ (szOf Tryd.prog 37 = some 1) ∧ (aggB Tryd.prog 37 = some false) ∧ (zeroS Tryd.prog 37 = some (.d (.v .nilFunc))) ∧ (szOf Tryd.prog 38 = some 1) ∧ (aggB Tryd.prog 38 = some false) ∧ (zeroS Tryd.prog 38 = some (.nil)) ∧ (elemSz Tryd.prog 38 = some 1) ∧ (Tryd.prog.underlying 38 = some (.slice 37)) ∧ (elemBy Tryd.prog 38 = some 8) ∧ (elemZ Tryd.prog 38 = true) ∧ (szOf Tryd.prog 54 = some 6) ∧ (aggB Tryd.prog 54 = some true) ∧ (zeroS Tryd.prog 54 = some (.agg [.d (.v (.int .i64 0)),.d (.v (.int .i64 0)),.d (.v (.string ⟨#[]⟩)),.nil,.nil,.nil])) ∧ (plcs Tryd.prog 54 = some [(0,5),(5,1)]) ∧ (fldOf Tryd.prog 54 0 = some (0,5)) ∧ (partOf Tryd.prog 54 0 = some (0,5)) ∧ (fldOf Tryd.prog 54 1 = some (5,1)) ∧ (partOf Tryd.prog 54 1 = some (5,1)) ∧ (szOf Tryd.prog 55 = some 1) ∧ (aggB Tryd.prog 55 = some false) ∧ (zeroS Tryd.prog 55 = some (.nil)) ∧ (elemSz Tryd.prog 55 = some 6) ∧ (Tryd.prog.underlying 55 = some (.slice 54)) ∧ (elemBy Tryd.prog 55 = some 104) ∧ (elemZ Tryd.prog 55 = true) ∧ (szOf Tryd.prog 69 = some 1) ∧ (aggB Tryd.prog 69 = some false) ∧ (zeroS Tryd.prog 69 = some (.d (.v (.pointer none)))):=⟨sz31,ag31,sz37,ag37,zr37,sz38,ag38,zr38,el38,un38,by38,ez38,sz54,ag54,zr54,pl54,fl54_0,pt54_0,fl54_1,pt54_1,sz55,ag55,zr55,el55,un55,by55,ez55,sz69,ag69,zr69⟩
end Go.Proofs.YtnclmjbkkgghhaaDoor
