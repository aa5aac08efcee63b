/- Facts on the types that the walks meet: sizes, zeros, fields, elements. -/
import Derived.Test.YtdcplkefmpjppaaDoorProg
import Derived.Test.YtdcplkefmpjppaaDoorSwB
import Derived.Test.YtdcplkefmpjppaaDoorDTB
set_option linter.unusedVariables false
namespace Go.Proofs.YtdcplkefmpjppaaDoor
open Go.Sw
set_option maxRecDepth 100000

theorem sz21 : szOf Tryd.prog 21 = some 1:=by kernel_rfl
theorem ag21 : aggB Tryd.prog 21 = some false:=by kernel_rfl
theorem zr21 : zeroS Tryd.prog 21 = some (.d (.v (.int .i32 0))):=by kernel_rfl
theorem un21 : Tryd.prog.underlying 21 = some (.int .i32):=by kernel_rfl
open And renaming intro → ai
theorem TCS : tyOf (ai sz21 (ai ag21 (ai zr21 un21))) := tyOk _
end Go.Proofs.YtdcplkefmpjppaaDoor
