/- Facts on the types that the walks meet: sizes, zeros, fields, elements. -/

import Derived.Test.YtgecnlcbdbaneaaDoorTA
set_option linter.unusedVariables false
set_option maxRecDepth 100000
namespace Go.Proofs.YtgecnlcbdbaneaaDoor
open Go.Sw

theorem sz42 : szOf Tryd.prog 42 = some 1:=by kernel_rfl
theorem ag42 : aggB Tryd.prog 42 = some false:=by kernel_rfl
-- no zero of 42: tuple tuple 2 agg 5 int i64 0 int
theorem sz56 : szOf Tryd.prog 56 = some 1:=by kernel_rfl
theorem ag56 : aggB Tryd.prog 56 = some false:=by kernel_rfl
theorem zr56 : zeroS Tryd.prog 56 = some (.d (.v .nilFunc)):=by kernel_rfl
theorem sz69 : szOf Tryd.prog 69 = some 1:=by kernel_rfl
theorem ag69 : aggB Tryd.prog 69 = some false:=by kernel_rfl
theorem zr69 : zeroS Tryd.prog 69 = some (.nil):=by kernel_rfl
theorem el69 : elemSz Tryd.prog 69 = some 1:=by kernel_rfl
theorem un69 : Tryd.prog.underlying 69 = some (.slice 56):=by kernel_rfl
theorem by69 : elemBy Tryd.prog 69 = some 8:=by kernel_rfl
theorem ez69 : elemZ Tryd.prog 69 = true:=by kernel_rfl
theorem sz79 : szOf Tryd.prog 79 = some 1:=by kernel_rfl
theorem ag79 : aggB Tryd.prog 79 = some false:=by kernel_rfl
theorem zr79 : zeroS Tryd.prog 79 = some (.d (.v (.pointer none))):=by kernel_rfl
theorem sz100 : szOf Tryd.prog 100 = some 6:=by kernel_rfl
theorem ag100 : aggB Tryd.prog 100 = some true:=by kernel_rfl
theorem zr100 : zeroS Tryd.prog 100 = some (.agg [.d (.v (.int .i64 0)),.d (.v (.int .i64 0)),.d (.v (.string ⟨#[]⟩)),.nil,.nil,.nil]):=by kernel_rfl
theorem pl100 : plcs Tryd.prog 100 = some [(0,5),(5,1)]:=by kernel_rfl
theorem fl100_0 : fldOf Tryd.prog 100 0 = some (0,5):=by kernel_rfl
theorem pt100_0 : partOf Tryd.prog 100 0 = some (0,5):=by kernel_rfl
theorem fl100_1 : fldOf Tryd.prog 100 1 = some (5,1):=by kernel_rfl
theorem pt100_1 : partOf Tryd.prog 100 1 = some (5,1):=by kernel_rfl
theorem sz101 : szOf Tryd.prog 101 = some 1:=by kernel_rfl
theorem ag101 : aggB Tryd.prog 101 = some false:=by kernel_rfl
theorem zr101 : zeroS Tryd.prog 101 = some (.nil):=by kernel_rfl
theorem el101 : elemSz Tryd.prog 101 = some 6:=by kernel_rfl
theorem un101 : Tryd.prog.underlying 101 = some (.slice 100):=by kernel_rfl
theorem by101 : elemBy Tryd.prog 101 = some 104:=by kernel_rfl
theorem ez101 : elemZ Tryd.prog 101 = true:=by kernel_rfl
open And renaming intro → ai
theorem TBS : tyOf (ai sz42 (ai ag42 (ai sz56 (ai ag56 (ai zr56 (ai sz69 (ai ag69 (ai zr69 (ai el69 (ai un69 (ai by69 (ai ez69 (ai sz79 (ai ag79 (ai zr79 (ai sz100 (ai ag100 (ai zr100 (ai pl100 (ai fl100_0 (ai pt100_0 (ai fl100_1 (ai pt100_1 (ai sz101 (ai ag101 (ai zr101 (ai el101 (ai un101 (ai by101 ez101))))))))))))))))))))))))))))) := tyOk _
theorem WB : tyOf (And.intro UN (And.intro LM (And.intro TAS (TBS)))):=tyOk _
end Go.Proofs.YtgecnlcbdbaneaaDoor
