/- Facts on the types that the walks meet: sizes, zeros, fields, elements. -/
import Derived.Test.YtdcplkefmpjppaaDoorProg
import Derived.Test.YtdcplkefmpjppaaDoorSwB
import Derived.Test.YtdcplkefmpjppaaDoorDTC
set_option linter.unusedVariables false
namespace Go.Proofs.YtdcplkefmpjppaaDoor
open Go.Sw
set_option maxRecDepth 100000

theorem sz47 : szOf Tryd.prog 47 = some 1:=by kernel_rfl
theorem ag47 : aggB Tryd.prog 47 = some false:=by kernel_rfl
theorem zr47 : zeroS Tryd.prog 47 = some (.nil):=by kernel_rfl
theorem el47 : elemSz Tryd.prog 47 = some 10:=by kernel_rfl
theorem un47 : Tryd.prog.underlying 47 = some (.slice 55):=by kernel_rfl
theorem by47 : elemBy Tryd.prog 47 = some 136:=by kernel_rfl
theorem ez47 : elemZ Tryd.prog 47 = true:=by kernel_rfl
theorem sz50 : szOf Tryd.prog 50 = some 3:=by kernel_rfl
theorem ag50 : aggB Tryd.prog 50 = some true:=by kernel_rfl
theorem zr50 : zeroS Tryd.prog 50 = some (.agg [.d (.v (.int .i64 0)),.d (.v (.int .i64 0)),.d (.v (.string ⟨#[]⟩))]):=by kernel_rfl
theorem pl50 : plcs Tryd.prog 50 = some [(0,1),(1,1),(2,1)]:=by kernel_rfl
theorem fl50_0 : fldOf Tryd.prog 50 0 = some (0,1):=by kernel_rfl
theorem pt50_0 : partOf Tryd.prog 50 0 = some (0,1):=by kernel_rfl
theorem fl50_1 : fldOf Tryd.prog 50 1 = some (1,1):=by kernel_rfl
theorem pt50_1 : partOf Tryd.prog 50 1 = some (1,1):=by kernel_rfl
theorem fl50_2 : fldOf Tryd.prog 50 2 = some (2,1):=by kernel_rfl
theorem pt50_2 : partOf Tryd.prog 50 2 = some (2,1):=by kernel_rfl
theorem sz55 : szOf Tryd.prog 55 = some 10:=by kernel_rfl
theorem ag55 : aggB Tryd.prog 55 = some true:=by kernel_rfl
theorem zr55 : zeroS Tryd.prog 55 = some (.agg [.d (.v (.int .i64 0)),.d (.v (.int .i64 0)),.d (.v (.int .i64 0)),.d (.v (.string ⟨#[]⟩)),.d (.v (.int .i64 0)),.d (.v (.int .i64 0)),.d (.v (.string ⟨#[]⟩)),.nil,.nil,.d (.v (.string ⟨#[]⟩))]):=by kernel_rfl
theorem pl55 : plcs Tryd.prog 55 = some [(0,1),(1,3),(4,5),(9,1)]:=by kernel_rfl
theorem fl55_0 : fldOf Tryd.prog 55 0 = some (0,1):=by kernel_rfl
theorem pt55_0 : partOf Tryd.prog 55 0 = some (0,1):=by kernel_rfl
theorem fl55_1 : fldOf Tryd.prog 55 1 = some (1,3):=by kernel_rfl
theorem pt55_1 : partOf Tryd.prog 55 1 = some (1,3):=by kernel_rfl
theorem fl55_2 : fldOf Tryd.prog 55 2 = some (4,5):=by kernel_rfl
theorem pt55_2 : partOf Tryd.prog 55 2 = some (4,5):=by kernel_rfl
theorem fl55_3 : fldOf Tryd.prog 55 3 = some (9,1):=by kernel_rfl
theorem pt55_3 : partOf Tryd.prog 55 3 = some (9,1):=by kernel_rfl
open And renaming intro → ai
theorem TES : tyOf (ai sz47 (ai ag47 (ai zr47 (ai el47 (ai un47 (ai by47 (ai ez47 (ai sz50 (ai ag50 (ai zr50 (ai pl50 (ai fl50_0 (ai pt50_0 (ai fl50_1 (ai pt50_1 (ai fl50_2 (ai pt50_2 (ai sz55 (ai ag55 (ai zr55 (ai pl55 (ai fl55_0 (ai pt55_0 (ai fl55_1 (ai pt55_1 (ai fl55_2 (ai pt55_2 (ai fl55_3 pt55_3)))))))))))))))))))))))))))) := tyOk _
theorem WE : tyOf (And.intro UN (And.intro LM (And.intro TAS (And.intro TBS (And.intro TCS (TES)))))):=tyOk _
end Go.Proofs.YtdcplkefmpjppaaDoor
