/- Facts on the types that the walks meet: sizes, zeros, fields, elements. -/
import Derived.Test.YtgecnlcbdbaneaaDoorU6
set_option linter.unusedVariables false
set_option maxRecDepth 100000
namespace Go.Proofs.YtgecnlcbdbaneaaDoor
open Go.Sw

theorem sz51 : szOf Tryd.prog 51 = some 1:=by kernel_rfl
theorem ag51 : aggB Tryd.prog 51 = some false:=by kernel_rfl
theorem zr51 : zeroS Tryd.prog 51 = some (.d (.v (.pointer none))):=by kernel_rfl
theorem sz58 : szOf Tryd.prog 58 = some 3:=by kernel_rfl
theorem ag58 : aggB Tryd.prog 58 = some true:=by kernel_rfl
theorem zr58 : zeroS Tryd.prog 58 = some (.agg [.d (.v (.int .i64 0)),.d (.v (.int .i64 0)),.d (.v (.string ⟨#[]⟩))]):=by kernel_rfl
theorem pl58 : plcs Tryd.prog 58 = some [(0,1),(1,1),(2,1)]:=by kernel_rfl
theorem fl58_0 : fldOf Tryd.prog 58 0 = some (0,1):=by kernel_rfl
theorem pt58_0 : partOf Tryd.prog 58 0 = some (0,1):=by kernel_rfl
theorem fl58_1 : fldOf Tryd.prog 58 1 = some (1,1):=by kernel_rfl
theorem pt58_1 : partOf Tryd.prog 58 1 = some (1,1):=by kernel_rfl
theorem fl58_2 : fldOf Tryd.prog 58 2 = some (2,1):=by kernel_rfl
theorem pt58_2 : partOf Tryd.prog 58 2 = some (2,1):=by kernel_rfl
theorem sz60 : szOf Tryd.prog 60 = some 10:=by kernel_rfl
theorem ag60 : aggB Tryd.prog 60 = some true:=by kernel_rfl
theorem zr60 : zeroS Tryd.prog 60 = some (.agg [.d (.v (.int .i64 0)),.d (.v (.int .i64 0)),.d (.v (.int .i64 0)),.d (.v (.string ⟨#[]⟩)),.d (.v (.int .i64 0)),.d (.v (.int .i64 0)),.d (.v (.string ⟨#[]⟩)),.nil,.nil,.d (.v (.string ⟨#[]⟩))]):=by kernel_rfl
theorem pl60 : plcs Tryd.prog 60 = some [(0,1),(1,3),(4,5),(9,1)]:=by kernel_rfl
theorem fl60_0 : fldOf Tryd.prog 60 0 = some (0,1):=by kernel_rfl
theorem pt60_0 : partOf Tryd.prog 60 0 = some (0,1):=by kernel_rfl
theorem fl60_1 : fldOf Tryd.prog 60 1 = some (1,3):=by kernel_rfl
theorem pt60_1 : partOf Tryd.prog 60 1 = some (1,3):=by kernel_rfl
theorem fl60_2 : fldOf Tryd.prog 60 2 = some (4,5):=by kernel_rfl
theorem pt60_2 : partOf Tryd.prog 60 2 = some (4,5):=by kernel_rfl
theorem fl60_3 : fldOf Tryd.prog 60 3 = some (9,1):=by kernel_rfl
theorem pt60_3 : partOf Tryd.prog 60 3 = some (9,1):=by kernel_rfl
theorem sz66 : szOf Tryd.prog 66 = some 1:=by kernel_rfl
theorem ag66 : aggB Tryd.prog 66 = some false:=by kernel_rfl
theorem zr66 : zeroS Tryd.prog 66 = some (.nil):=by kernel_rfl
theorem el66 : elemSz Tryd.prog 66 = some 10:=by kernel_rfl
theorem un66 : Tryd.prog.underlying 66 = some (.slice 60):=by kernel_rfl
theorem by66 : elemBy Tryd.prog 66 = some 136:=by kernel_rfl
theorem ez66 : elemZ Tryd.prog 66 = true:=by kernel_rfl
theorem sz106 : szOf Tryd.prog 106 = some 4:=by kernel_rfl
theorem ag106 : aggB Tryd.prog 106 = some true:=by kernel_rfl
theorem zr106 : zeroS Tryd.prog 106 = some (.agg [.nil,.d (.v (.int .i64 0)),.d (.v (.int .i64 0)),.d (.v (.int .i64 0))]):=by kernel_rfl
theorem pl106 : plcs Tryd.prog 106 = some [(0,1),(1,1),(2,1),(3,1)]:=by kernel_rfl
theorem fl106_0 : fldOf Tryd.prog 106 0 = some (0,1):=by kernel_rfl
theorem pt106_0 : partOf Tryd.prog 106 0 = some (0,1):=by kernel_rfl
theorem fl106_1 : fldOf Tryd.prog 106 1 = some (1,1):=by kernel_rfl
theorem pt106_1 : partOf Tryd.prog 106 1 = some (1,1):=by kernel_rfl
theorem fl106_2 : fldOf Tryd.prog 106 2 = some (2,1):=by kernel_rfl
theorem pt106_2 : partOf Tryd.prog 106 2 = some (2,1):=by kernel_rfl
theorem fl106_3 : fldOf Tryd.prog 106 3 = some (3,1):=by kernel_rfl
theorem pt106_3 : partOf Tryd.prog 106 3 = some (3,1):=by kernel_rfl
open And renaming intro → ai
theorem TES : tyOf (ai sz51 (ai ag51 (ai zr51 (ai sz58 (ai ag58 (ai zr58 (ai pl58 (ai fl58_0 (ai pt58_0 (ai fl58_1 (ai pt58_1 (ai fl58_2 (ai pt58_2 (ai sz60 (ai ag60 (ai zr60 (ai pl60 (ai fl60_0 (ai pt60_0 (ai fl60_1 (ai pt60_1 (ai fl60_2 (ai pt60_2 (ai fl60_3 (ai pt60_3 (ai sz66 (ai ag66 (ai zr66 (ai el66 (ai un66 (ai by66 (ai ez66 (ai sz106 (ai ag106 (ai zr106 (ai pl106 (ai fl106_0 (ai pt106_0 (ai fl106_1 (ai pt106_1 (ai fl106_2 (ai pt106_2 (ai fl106_3 pt106_3))))))))))))))))))))))))))))))))))))))))))) := tyOk _
theorem WE : tyOf (And.intro UN (And.intro LM (And.intro TAS (And.intro TBS (And.intro TCS (TES)))))):=tyOk _
end Go.Proofs.YtgecnlcbdbaneaaDoor
