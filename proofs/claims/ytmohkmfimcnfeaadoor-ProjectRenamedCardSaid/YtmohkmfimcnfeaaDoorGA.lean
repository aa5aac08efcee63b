/- Facts on the types that the walks meet: sizes, zeros, fields, elements. -/
import Derived.Test.YtmohkmfimcnfeaaDoorSwB
import Derived.Test.YtmohkmfimcnfeaaDoorSwD
import Derived.Test.YtmohkmfimcnfeaaDoorProg
set_option linter.unusedVariables false
namespace Go.Proofs.YtmohkmfimcnfeaaDoor
open Go.Sw

theorem sz2 : szOf Tryd.prog 2 = some 1:=by kernel_rfl
theorem ag2 : aggB Tryd.prog 2 = some false:=by kernel_rfl
theorem zr2 : zeroS Tryd.prog 2 = some (.d (.v (.int .i64 0))):=by kernel_rfl
theorem un2 : Tryd.prog.underlying 2 = some (.int .i64):=by kernel_rfl
theorem sz3 : szOf Tryd.prog 3 = some 1:=by kernel_rfl
theorem ag3 : aggB Tryd.prog 3 = some false:=by kernel_rfl
theorem zr3 : zeroS Tryd.prog 3 = some (.d (.v (.int .i64 0))):=by kernel_rfl
theorem un3 : Tryd.prog.underlying 3 = some (.int .i64):=by kernel_rfl
theorem sz4 : szOf Tryd.prog 4 = some 1:=by kernel_rfl
theorem ag4 : aggB Tryd.prog 4 = some false:=by kernel_rfl
theorem zr4 : zeroS Tryd.prog 4 = some (.d (.v (.bool false))):=by kernel_rfl
theorem sz5 : szOf Tryd.prog 5 = some 1:=by kernel_rfl
theorem ag5 : aggB Tryd.prog 5 = some false:=by kernel_rfl
theorem zr5 : zeroS Tryd.prog 5 = some (.d (.v (.int .u8 0))):=by kernel_rfl
theorem un5 : Tryd.prog.underlying 5 = some (.int .u8):=by kernel_rfl
theorem sz9 : szOf Tryd.prog 9 = some 1:=by kernel_rfl
theorem ag9 : aggB Tryd.prog 9 = some false:=by kernel_rfl
theorem zr9 : zeroS Tryd.prog 9 = some (.d (.v (.string ⟨#[]⟩))):=by kernel_rfl
theorem un9 : Tryd.prog.underlying 9 = some .string:=by kernel_rfl
theorem sz22 : szOf Tryd.prog 22 = some 1:=by kernel_rfl
theorem ag22 : aggB Tryd.prog 22 = some false:=by kernel_rfl
theorem zr22 : zeroS Tryd.prog 22 = some (.nil):=by kernel_rfl
theorem el22 : elemSz Tryd.prog 22 = some 1:=by kernel_rfl
theorem un22 : Tryd.prog.underlying 22 = some (.slice 9):=by kernel_rfl
theorem by22 : elemBy Tryd.prog 22 = some 16:=by kernel_rfl
theorem ez22 : elemZ Tryd.prog 22 = true:=by kernel_rfl
theorem sz23 : szOf Tryd.prog 23 = some 1:=by kernel_rfl
theorem ag23 : aggB Tryd.prog 23 = some false:=by kernel_rfl
theorem zr23 : zeroS Tryd.prog 23 = some (.nil):=by kernel_rfl
theorem el23 : elemSz Tryd.prog 23 = some 7:=by kernel_rfl
theorem un23 : Tryd.prog.underlying 23 = some (.slice 25):=by kernel_rfl
theorem by23 : elemBy Tryd.prog 23 = some 112:=by kernel_rfl
theorem ez23 : elemZ Tryd.prog 23 = true:=by kernel_rfl
theorem sz25 : szOf Tryd.prog 25 = some 7:=by kernel_rfl
theorem ag25 : aggB Tryd.prog 25 = some true:=by kernel_rfl
theorem zr25 : zeroS Tryd.prog 25 = some (.agg [.d (.v (.int .i64 0)),.d (.v (.string ⟨#[]⟩)),.d (.v (.string ⟨#[]⟩)),.d (.v (.int .i64 0)),.d (.v (.string ⟨#[]⟩)),.nil,.nil]):=by kernel_rfl
theorem pl25 : plcs Tryd.prog 25 = some [(0,1),(1,1),(2,1),(3,1),(4,1),(5,1),(6,1)]:=by kernel_rfl
theorem fl25_0 : fldOf Tryd.prog 25 0 = some (0,1):=by kernel_rfl
theorem pt25_0 : partOf Tryd.prog 25 0 = some (0,1):=by kernel_rfl
theorem fl25_1 : fldOf Tryd.prog 25 1 = some (1,1):=by kernel_rfl
theorem pt25_1 : partOf Tryd.prog 25 1 = some (1,1):=by kernel_rfl
theorem fl25_2 : fldOf Tryd.prog 25 2 = some (2,1):=by kernel_rfl
theorem pt25_2 : partOf Tryd.prog 25 2 = some (2,1):=by kernel_rfl
theorem fl25_3 : fldOf Tryd.prog 25 3 = some (3,1):=by kernel_rfl
theorem pt25_3 : partOf Tryd.prog 25 3 = some (3,1):=by kernel_rfl
theorem fl25_4 : fldOf Tryd.prog 25 4 = some (4,1):=by kernel_rfl
theorem pt25_4 : partOf Tryd.prog 25 4 = some (4,1):=by kernel_rfl
theorem fl25_5 : fldOf Tryd.prog 25 5 = some (5,1):=by kernel_rfl
theorem pt25_5 : partOf Tryd.prog 25 5 = some (5,1):=by kernel_rfl
theorem fl25_6 : fldOf Tryd.prog 25 6 = some (6,1):=by kernel_rfl
theorem pt25_6 : partOf Tryd.prog 25 6 = some (6,1):=by kernel_rfl
theorem sz26 : szOf Tryd.prog 26 = some 1:=by kernel_rfl
theorem ag26 : aggB Tryd.prog 26 = some false:=by kernel_rfl
theorem zr26 : zeroS Tryd.prog 26 = some (.d (.v (.int .i64 0))):=by kernel_rfl
theorem un26 : Tryd.prog.underlying 26 = some (.int .i64):=by kernel_rfl
theorem sz30 : szOf Tryd.prog 30 = some 2:=by kernel_rfl
theorem ag30 : aggB Tryd.prog 30 = some true:=by kernel_rfl
theorem zr30 : zeroS Tryd.prog 30 = some (.agg [.d (.v (.int .i64 0)),.d (.v (.int .i64 0))]):=by kernel_rfl
theorem pl30 : plcs Tryd.prog 30 = some [(0,1),(1,1)]:=by kernel_rfl
theorem fl30_0 : fldOf Tryd.prog 30 0 = some (0,1):=by kernel_rfl
theorem pt30_0 : partOf Tryd.prog 30 0 = some (0,1):=by kernel_rfl
theorem fl30_1 : fldOf Tryd.prog 30 1 = some (1,1):=by kernel_rfl
theorem pt30_1 : partOf Tryd.prog 30 1 = some (1,1):=by kernel_rfl
theorem sz43 : szOf Tryd.prog 43 = some 1:=by kernel_rfl
theorem ag43 : aggB Tryd.prog 43 = some false:=by kernel_rfl
theorem zr43 : zeroS Tryd.prog 43 = some (.nil):=by kernel_rfl
theorem el43 : elemSz Tryd.prog 43 = some 6:=by kernel_rfl
theorem un43 : Tryd.prog.underlying 43 = some (.slice 45):=by kernel_rfl
theorem by43 : elemBy Tryd.prog 43 = some 96:=by kernel_rfl
theorem ez43 : elemZ Tryd.prog 43 = true:=by kernel_rfl
theorem sz45 : szOf Tryd.prog 45 = some 6:=by kernel_rfl
theorem ag45 : aggB Tryd.prog 45 = some true:=by kernel_rfl
theorem zr45 : zeroS Tryd.prog 45 = some (.agg [.d (.v (.int .i64 0)),.d (.v (.string ⟨#[]⟩)),.d (.v (.int .i64 0)),.d (.v (.string ⟨#[]⟩)),.nil,.nil]):=by kernel_rfl
theorem pl45 : plcs Tryd.prog 45 = some [(0,1),(1,1),(2,1),(3,1),(4,1),(5,1)]:=by kernel_rfl
theorem fl45_0 : fldOf Tryd.prog 45 0 = some (0,1):=by kernel_rfl
theorem pt45_0 : partOf Tryd.prog 45 0 = some (0,1):=by kernel_rfl
theorem fl45_1 : fldOf Tryd.prog 45 1 = some (1,1):=by kernel_rfl
theorem pt45_1 : partOf Tryd.prog 45 1 = some (1,1):=by kernel_rfl
theorem fl45_2 : fldOf Tryd.prog 45 2 = some (2,1):=by kernel_rfl
theorem pt45_2 : partOf Tryd.prog 45 2 = some (2,1):=by kernel_rfl
theorem fl45_3 : fldOf Tryd.prog 45 3 = some (3,1):=by kernel_rfl
theorem pt45_3 : partOf Tryd.prog 45 3 = some (3,1):=by kernel_rfl
theorem fl45_4 : fldOf Tryd.prog 45 4 = some (4,1):=by kernel_rfl
theorem pt45_4 : partOf Tryd.prog 45 4 = some (4,1):=by kernel_rfl
theorem fl45_5 : fldOf Tryd.prog 45 5 = some (5,1):=by kernel_rfl
theorem pt45_5 : partOf Tryd.prog 45 5 = some (5,1):=by kernel_rfl
theorem sz56 : szOf Tryd.prog 56 = some 1:=by kernel_rfl
theorem ag56 : aggB Tryd.prog 56 = some false:=by kernel_rfl
theorem zr56 : zeroS Tryd.prog 56 = some (.d (.v (.pointer none))):=by kernel_rfl
theorem sz58 : szOf Tryd.prog 58 = some 2:=by kernel_rfl
theorem ag58 : aggB Tryd.prog 58 = some true:=by kernel_rfl
theorem zr58 : zeroS Tryd.prog 58 = some (.agg [.d (.v (.string ⟨#[]⟩)),.d (.v (.int .i64 0))]):=by kernel_rfl
theorem pl58 : plcs Tryd.prog 58 = some [(0,1),(1,1)]:=by kernel_rfl
theorem fl58_0 : fldOf Tryd.prog 58 0 = some (0,1):=by kernel_rfl
theorem pt58_0 : partOf Tryd.prog 58 0 = some (0,1):=by kernel_rfl
theorem fl58_1 : fldOf Tryd.prog 58 1 = some (1,1):=by kernel_rfl
theorem pt58_1 : partOf Tryd.prog 58 1 = some (1,1):=by kernel_rfl
theorem sz59 : szOf Tryd.prog 59 = some 2:=by kernel_rfl
theorem ag59 : aggB Tryd.prog 59 = some true:=by kernel_rfl
theorem zr59 : zeroS Tryd.prog 59 = some (.agg [.d (.v (.int .i64 0)),.d (.v (.int .i64 0))]):=by kernel_rfl
theorem pl59 : plcs Tryd.prog 59 = some [(0,2)]:=by kernel_rfl
theorem fl59_0 : fldOf Tryd.prog 59 0 = some (0,2):=by kernel_rfl
theorem pt59_0 : partOf Tryd.prog 59 0 = some (0,2):=by kernel_rfl
theorem sz60 : szOf Tryd.prog 60 = some 2:=by kernel_rfl
theorem ag60 : aggB Tryd.prog 60 = some true:=by kernel_rfl
theorem zr60 : zeroS Tryd.prog 60 = some (.agg [.d (.v (.int .i64 0)),.d (.v (.int .i64 0))]):=by kernel_rfl
theorem pl60 : plcs Tryd.prog 60 = some [(0,2)]:=by kernel_rfl
theorem fl60_0 : fldOf Tryd.prog 60 0 = some (0,2):=by kernel_rfl
theorem pt60_0 : partOf Tryd.prog 60 0 = some (0,2):=by kernel_rfl
theorem sz71 : szOf Tryd.prog 71 = some 1:=by kernel_rfl
theorem ag71 : aggB Tryd.prog 71 = some false:=by kernel_rfl
theorem zr71 : zeroS Tryd.prog 71 = some (.d (.v (.pointer none))):=by kernel_rfl
theorem sz79 : szOf Tryd.prog 79 = some 1:=by kernel_rfl
theorem ag79 : aggB Tryd.prog 79 = some false:=by kernel_rfl
theorem zr79 : zeroS Tryd.prog 79 = some (.d (.v (.pointer none))):=by kernel_rfl
theorem sz82 : szOf Tryd.prog 82 = some 1:=by kernel_rfl
theorem ag82 : aggB Tryd.prog 82 = some false:=by kernel_rfl
theorem zr82 : zeroS Tryd.prog 82 = some (.d (.v (.int .u64 0))):=by kernel_rfl
theorem un82 : Tryd.prog.underlying 82 = some (.int .u64):=by kernel_rfl
theorem sz85 : szOf Tryd.prog 85 = some 1:=by kernel_rfl
theorem ag85 : aggB Tryd.prog 85 = some false:=by kernel_rfl
theorem zr85 : zeroS Tryd.prog 85 = some (.nil):=by kernel_rfl
theorem el85 : elemSz Tryd.prog 85 = some 5:=by kernel_rfl
theorem un85 : Tryd.prog.underlying 85 = some (.slice 87):=by kernel_rfl
theorem by85 : elemBy Tryd.prog 85 = some 80:=by kernel_rfl
theorem ez85 : elemZ Tryd.prog 85 = true:=by kernel_rfl
theorem sz87 : szOf Tryd.prog 87 = some 5:=by kernel_rfl
theorem ag87 : aggB Tryd.prog 87 = some true:=by kernel_rfl
theorem zr87 : zeroS Tryd.prog 87 = some (.agg [.d (.v (.int .i64 0)),.d (.v (.int .i64 0)),.d (.v (.string ⟨#[]⟩)),.nil,.nil]):=by kernel_rfl
theorem pl87 : plcs Tryd.prog 87 = some [(0,1),(1,1),(2,1),(3,1),(4,1)]:=by kernel_rfl
theorem fl87_0 : fldOf Tryd.prog 87 0 = some (0,1):=by kernel_rfl
theorem pt87_0 : partOf Tryd.prog 87 0 = some (0,1):=by kernel_rfl
theorem fl87_1 : fldOf Tryd.prog 87 1 = some (1,1):=by kernel_rfl
theorem pt87_1 : partOf Tryd.prog 87 1 = some (1,1):=by kernel_rfl
theorem fl87_2 : fldOf Tryd.prog 87 2 = some (2,1):=by kernel_rfl
theorem pt87_2 : partOf Tryd.prog 87 2 = some (2,1):=by kernel_rfl
theorem fl87_3 : fldOf Tryd.prog 87 3 = some (3,1):=by kernel_rfl
theorem pt87_3 : partOf Tryd.prog 87 3 = some (3,1):=by kernel_rfl
theorem fl87_4 : fldOf Tryd.prog 87 4 = some (4,1):=by kernel_rfl
theorem pt87_4 : partOf Tryd.prog 87 4 = some (4,1):=by kernel_rfl
theorem sz102 : szOf Tryd.prog 102 = some 1:=by kernel_rfl
theorem ag102 : aggB Tryd.prog 102 = some false:=by kernel_rfl
theorem zr102 : zeroS Tryd.prog 102 = some (.d (.v (.int .i64 0))):=by kernel_rfl
theorem un102 : Tryd.prog.underlying 102 = some (.int .i64):=by kernel_rfl
theorem sz111 : szOf Tryd.prog 111 = some 1:=by kernel_rfl
theorem ag111 : aggB Tryd.prog 111 = some false:=by kernel_rfl
theorem zr111 : zeroS Tryd.prog 111 = some (.d (.v (.int .u32 0))):=by kernel_rfl
theorem un111 : Tryd.prog.underlying 111 = some (.int .u32):=by kernel_rfl
theorem sz113 : szOf Tryd.prog 113 = some 1:=by kernel_rfl
theorem ag113 : aggB Tryd.prog 113 = some false:=by kernel_rfl
theorem zr113 : zeroS Tryd.prog 113 = some (.d (.v (.int .u64 0))):=by kernel_rfl
theorem un113 : Tryd.prog.underlying 113 = some (.int .u64):=by kernel_rfl
open And renaming intro → ai
theorem TAS : tyOf (ai sz2 (ai ag2 (ai zr2 (ai un2 (ai sz3 (ai ag3 (ai zr3 (ai un3 (ai sz4 (ai ag4 (ai zr4 (ai sz5 (ai ag5 (ai zr5 (ai un5 (ai sz9 (ai ag9 (ai zr9 (ai un9 (ai sz22 (ai ag22 (ai zr22 (ai el22 (ai un22 (ai by22 (ai ez22 (ai sz23 (ai ag23 (ai zr23 (ai el23 (ai un23 (ai by23 (ai ez23 (ai sz25 (ai ag25 (ai zr25 (ai pl25 (ai fl25_0 (ai pt25_0 (ai fl25_1 (ai pt25_1 (ai fl25_2 (ai pt25_2 (ai fl25_3 (ai pt25_3 (ai fl25_4 (ai pt25_4 (ai fl25_5 (ai pt25_5 (ai fl25_6 (ai pt25_6 (ai sz26 (ai ag26 (ai zr26 (ai un26 (ai sz30 (ai ag30 (ai zr30 (ai pl30 (ai fl30_0 (ai pt30_0 (ai fl30_1 (ai pt30_1 (ai sz43 (ai ag43 (ai zr43 (ai el43 (ai un43 (ai by43 (ai ez43 (ai sz45 (ai ag45 (ai zr45 (ai pl45 (ai fl45_0 (ai pt45_0 (ai fl45_1 (ai pt45_1 (ai fl45_2 (ai pt45_2 (ai fl45_3 (ai pt45_3 (ai fl45_4 (ai pt45_4 (ai fl45_5 (ai pt45_5 (ai sz56 (ai ag56 (ai zr56 (ai sz58 (ai ag58 (ai zr58 (ai pl58 (ai fl58_0 (ai pt58_0 (ai fl58_1 (ai pt58_1 (ai sz59 (ai ag59 (ai zr59 (ai pl59 (ai fl59_0 (ai pt59_0 (ai sz60 (ai ag60 (ai zr60 (ai pl60 (ai fl60_0 (ai pt60_0 (ai sz71 (ai ag71 (ai zr71 (ai sz79 (ai ag79 (ai zr79 (ai sz82 (ai ag82 (ai zr82 (ai un82 (ai sz85 (ai ag85 (ai zr85 (ai el85 (ai un85 (ai by85 (ai ez85 (ai sz87 (ai ag87 (ai zr87 (ai pl87 (ai fl87_0 (ai pt87_0 (ai fl87_1 (ai pt87_1 (ai fl87_2 (ai pt87_2 (ai fl87_3 (ai pt87_3 (ai fl87_4 (ai pt87_4 (ai sz102 (ai ag102 (ai zr102 (ai un102 (ai sz111 (ai ag111 (ai zr111 (ai un111 (ai sz113 (ai ag113 (ai zr113 un113))))))))))))))))))))))))))))))))))))))))))))))))))))))))))))))))))))))))))))))))))))))))))))))))))))))))))))))))))))))))))))))))))))))))))))))))))))))) := tyOk _
theorem WA : tyOf (And.intro UN (And.intro LM (TAS))):=tyOk _
end Go.Proofs.YtmohkmfimcnfeaaDoor
