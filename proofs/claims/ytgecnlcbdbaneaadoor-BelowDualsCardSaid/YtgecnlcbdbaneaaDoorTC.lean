/- Facts on the types that the walks meet: sizes, zeros, fields, elements. -/
import Derived.Test.YtgecnlcbdbaneaaDoorHG

set_option linter.unusedVariables false
set_option maxRecDepth 100000
namespace Go.Proofs.YtgecnlcbdbaneaaDoor
open Go.Sw

theorem sz21 : szOf Tryd.prog 21 = some 1:=by kernel_rfl
theorem ag21 : aggB Tryd.prog 21 = some false:=by kernel_rfl
theorem zr21 : zeroS Tryd.prog 21 = some (.d (.v (.int .i32 0))):=by kernel_rfl
theorem un21 : Tryd.prog.underlying 21 = some (.int .i32):=by kernel_rfl
open And renaming intro → ai
theorem TCS : tyOf (ai sz21 (ai ag21 (ai zr21 un21))) := tyOk _
theorem WC : tyOf (And.intro UN (And.intro LM (And.intro TAS (And.intro TBS (TCS))))):=tyOk _
end Go.Proofs.YtgecnlcbdbaneaaDoor
/- Facts on the types that the walks meet: sizes, zeros, fields, elements. -/

set_option maxRecDepth 100000
namespace Go.Proofs.YtgecnlcbdbaneaaDoor
open Go.Sw

theorem sz120 : szOf Tryd.prog 120 = some 1:=by kernel_rfl
theorem ag120 : aggB Tryd.prog 120 = some false:=by kernel_rfl
theorem zr120 : zeroS Tryd.prog 120 = some (.d (.v (.pointer none))):=by kernel_rfl
theorem sz121 : szOf Tryd.prog 121 = some 1:=by kernel_rfl
theorem ag121 : aggB Tryd.prog 121 = some false:=by kernel_rfl
theorem zr121 : zeroS Tryd.prog 121 = some (.d (.v (.map none))):=by kernel_rfl
theorem un121 : Tryd.prog.underlying 121 = some (.map 143 3):=by kernel_rfl
theorem mo121 : mapOf Tryd.prog 121 = some (143,(.int .i64 0)):=by kernel_rfl
theorem sz122 : szOf Tryd.prog 122 = some 1:=by kernel_rfl
theorem ag122 : aggB Tryd.prog 122 = some false:=by kernel_rfl
theorem zr122 : zeroS Tryd.prog 122 = some (.nil):=by kernel_rfl
theorem el122 : elemSz Tryd.prog 122 = some 1:=by kernel_rfl
theorem un122 : Tryd.prog.underlying 122 = some (.slice 4):=by kernel_rfl
theorem by122 : elemBy Tryd.prog 122 = some 1:=by kernel_rfl
theorem ez122 : elemZ Tryd.prog 122 = true:=by kernel_rfl
theorem sz124 : szOf Tryd.prog 124 = some 6:=by kernel_rfl
theorem ag124 : aggB Tryd.prog 124 = some true:=by kernel_rfl
theorem zr124 : zeroS Tryd.prog 124 = some (.agg [.nil,.nil,.d (.v (.map none)),.nil,.nil,.nil]):=by kernel_rfl
theorem pl124 : plcs Tryd.prog 124 = some [(0,1),(1,1),(2,1),(3,1),(4,1),(5,1)]:=by kernel_rfl
theorem fl124_0 : fldOf Tryd.prog 124 0 = some (0,1):=by kernel_rfl
theorem pt124_0 : partOf Tryd.prog 124 0 = some (0,1):=by kernel_rfl
theorem fl124_1 : fldOf Tryd.prog 124 1 = some (1,1):=by kernel_rfl
theorem pt124_1 : partOf Tryd.prog 124 1 = some (1,1):=by kernel_rfl
theorem fl124_2 : fldOf Tryd.prog 124 2 = some (2,1):=by kernel_rfl
theorem pt124_2 : partOf Tryd.prog 124 2 = some (2,1):=by kernel_rfl
theorem fl124_3 : fldOf Tryd.prog 124 3 = some (3,1):=by kernel_rfl
theorem pt124_3 : partOf Tryd.prog 124 3 = some (3,1):=by kernel_rfl
theorem fl124_4 : fldOf Tryd.prog 124 4 = some (4,1):=by kernel_rfl
theorem pt124_4 : partOf Tryd.prog 124 4 = some (4,1):=by kernel_rfl
theorem fl124_5 : fldOf Tryd.prog 124 5 = some (5,1):=by kernel_rfl
theorem pt124_5 : partOf Tryd.prog 124 5 = some (5,1):=by kernel_rfl
theorem sz143 : szOf Tryd.prog 143 = some 3:=by kernel_rfl
theorem ag143 : aggB Tryd.prog 143 = some true:=by kernel_rfl
theorem zr143 : zeroS Tryd.prog 143 = some (.agg [.d (.v (.int .i64 0)),.d (.v (.int .i64 0)),.d (.v (.int .i64 0))]):=by kernel_rfl
theorem pt143_0 : partOf Tryd.prog 143 0 = some (0,1):=by kernel_rfl
theorem pt143_1 : partOf Tryd.prog 143 1 = some (1,1):=by kernel_rfl
theorem pt143_2 : partOf Tryd.prog 143 2 = some (2,1):=by kernel_rfl
open And renaming intro → ai
theorem TDS : tyOf (ai sz120 (ai ag120 (ai zr120 (ai sz121 (ai ag121 (ai zr121 (ai un121 (ai mo121 (ai sz122 (ai ag122 (ai zr122 (ai el122 (ai un122 (ai by122 (ai ez122 (ai sz124 (ai ag124 (ai zr124 (ai pl124 (ai fl124_0 (ai pt124_0 (ai fl124_1 (ai pt124_1 (ai fl124_2 (ai pt124_2 (ai fl124_3 (ai pt124_3 (ai fl124_4 (ai pt124_4 (ai fl124_5 (ai pt124_5 (ai sz143 (ai ag143 (ai zr143 (ai pt143_0 (ai pt143_1 pt143_2)))))))))))))))))))))))))))))))))))) := tyOk _
theorem WD : tyOf (And.intro UN (And.intro LM (And.intro TAS (And.intro TBS (And.intro TCS (TDS)))))):=tyOk _
end Go.Proofs.YtgecnlcbdbaneaaDoor
