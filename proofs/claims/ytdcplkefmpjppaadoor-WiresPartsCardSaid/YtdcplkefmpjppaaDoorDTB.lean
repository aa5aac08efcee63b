/- Facts on the types that the walks meet: sizes, zeros, fields, elements. -/
import Derived.Test.YtdcplkefmpjppaaDoorProg
import Derived.Test.YtdcplkefmpjppaaDoorSwB
import Derived.Test.YtdcplkefmpjppaaDoorDTA
set_option linter.unusedVariables false
namespace Go.Proofs.YtdcplkefmpjppaaDoor
open Go.Sw
set_option maxRecDepth 100000

theorem sz89 : szOf Tryd.prog 89 = some 1:=by kernel_rfl
theorem ag89 : aggB Tryd.prog 89 = some false:=by kernel_rfl
theorem zr89 : zeroS Tryd.prog 89 = some (.d (.v (.pointer none))):=by kernel_rfl
theorem sz91 : szOf Tryd.prog 91 = some 8:=by kernel_rfl
theorem ag91 : aggB Tryd.prog 91 = some true:=by kernel_rfl
theorem zr91 : zeroS Tryd.prog 91 = some (.agg [.d (.v (.int .i64 0)),.d (.v (.string ⟨#[]⟩)),.d (.v (.string ⟨#[]⟩)),.d (.v (.int .i64 0)),.d (.v (.string ⟨#[]⟩)),.nil,.nil,.nil]):=by kernel_rfl
theorem pl91 : plcs Tryd.prog 91 = some [(0,7),(7,1)]:=by kernel_rfl
theorem fl91_0 : fldOf Tryd.prog 91 0 = some (0,7):=by kernel_rfl
theorem pt91_0 : partOf Tryd.prog 91 0 = some (0,7):=by kernel_rfl
theorem fl91_1 : fldOf Tryd.prog 91 1 = some (7,1):=by kernel_rfl
theorem pt91_1 : partOf Tryd.prog 91 1 = some (7,1):=by kernel_rfl
theorem sz92 : szOf Tryd.prog 92 = some 1:=by kernel_rfl
theorem ag92 : aggB Tryd.prog 92 = some false:=by kernel_rfl
theorem zr92 : zeroS Tryd.prog 92 = some (.nil):=by kernel_rfl
theorem el92 : elemSz Tryd.prog 92 = some 8:=by kernel_rfl
theorem un92 : Tryd.prog.underlying 92 = some (.slice 91):=by kernel_rfl
theorem by92 : elemBy Tryd.prog 92 = some 136:=by kernel_rfl
theorem ez92 : elemZ Tryd.prog 92 = true:=by kernel_rfl
open And renaming intro → ai
theorem TBS : tyOf (ai sz89 (ai ag89 (ai zr89 (ai sz91 (ai ag91 (ai zr91 (ai pl91 (ai fl91_0 (ai pt91_0 (ai fl91_1 (ai pt91_1 (ai sz92 (ai ag92 (ai zr92 (ai el92 (ai un92 (ai by92 ez92))))))))))))))))) := tyOk _
end Go.Proofs.YtdcplkefmpjppaaDoor
