/- Facts on the types that the walks meet: sizes, zeros, fields, elements. -/
import Derived.Test.YtdcplkefmpjppaaGreatDoorSwB
import Derived.Test.YtdcplkefmpjppaaGreatDoorSwD
import Derived.Test.YtdcplkefmpjppaaGreatDoorProg
set_option linter.unusedVariables false
namespace Go.Proofs.YtdcplkefmpjppaaGreatDoor
open Go.Sw
set_option maxRecDepth 100000

theorem sz2 : szOf Tryz.prog 2 = some 1:=by kernel_rfl
theorem ag2 : aggB Tryz.prog 2 = some false:=by kernel_rfl
theorem zr2 : zeroS Tryz.prog 2 = some (.d (.v (.int .i64 0))):=by kernel_rfl
theorem un2 : Tryz.prog.underlying 2 = some (.int .i64):=by kernel_rfl
theorem sz3 : szOf Tryz.prog 3 = some 1:=by kernel_rfl
theorem ag3 : aggB Tryz.prog 3 = some false:=by kernel_rfl
theorem zr3 : zeroS Tryz.prog 3 = some (.d (.v (.int .i64 0))):=by kernel_rfl
theorem un3 : Tryz.prog.underlying 3 = some (.int .i64):=by kernel_rfl
theorem sz4 : szOf Tryz.prog 4 = some 1:=by kernel_rfl
theorem ag4 : aggB Tryz.prog 4 = some false:=by kernel_rfl
theorem zr4 : zeroS Tryz.prog 4 = some (.d (.v (.bool false))):=by kernel_rfl
theorem sz5 : szOf Tryz.prog 5 = some 1:=by kernel_rfl
theorem ag5 : aggB Tryz.prog 5 = some false:=by kernel_rfl
theorem zr5 : zeroS Tryz.prog 5 = some (.d (.v (.int .u8 0))):=by kernel_rfl
theorem un5 : Tryz.prog.underlying 5 = some (.int .u8):=by kernel_rfl
theorem sz9 : szOf Tryz.prog 9 = some 1:=by kernel_rfl
theorem ag9 : aggB Tryz.prog 9 = some false:=by kernel_rfl
theorem zr9 : zeroS Tryz.prog 9 = some (.d (.v (.string ⟨#[]⟩))):=by kernel_rfl
theorem un9 : Tryz.prog.underlying 9 = some .string:=by kernel_rfl
theorem sz22 : szOf Tryz.prog 22 = some 1:=by kernel_rfl
theorem ag22 : aggB Tryz.prog 22 = some false:=by kernel_rfl
theorem zr22 : zeroS Tryz.prog 22 = some (.nil):=by kernel_rfl
theorem el22 : elemSz Tryz.prog 22 = some 1:=by kernel_rfl
theorem un22 : Tryz.prog.underlying 22 = some (.slice 9):=by kernel_rfl
theorem by22 : elemBy Tryz.prog 22 = some 16:=by kernel_rfl
theorem ez22 : elemZ Tryz.prog 22 = true:=by kernel_rfl
theorem sz23 : szOf Tryz.prog 23 = some 1:=by kernel_rfl
theorem ag23 : aggB Tryz.prog 23 = some false:=by kernel_rfl
theorem zr23 : zeroS Tryz.prog 23 = some (.nil):=by kernel_rfl
theorem el23 : elemSz Tryz.prog 23 = some 7:=by kernel_rfl
theorem un23 : Tryz.prog.underlying 23 = some (.slice 25):=by kernel_rfl
theorem by23 : elemBy Tryz.prog 23 = some 112:=by kernel_rfl
theorem ez23 : elemZ Tryz.prog 23 = true:=by kernel_rfl
theorem sz25 : szOf Tryz.prog 25 = some 7:=by kernel_rfl
theorem ag25 : aggB Tryz.prog 25 = some true:=by kernel_rfl
theorem zr25 : zeroS Tryz.prog 25 = some (.agg [.d (.v (.int .i64 0)),.d (.v (.string ⟨#[]⟩)),.d (.v (.string ⟨#[]⟩)),.d (.v (.int .i64 0)),.d (.v (.string ⟨#[]⟩)),.nil,.nil]):=by kernel_rfl
theorem pl25 : plcs Tryz.prog 25 = some [(0,1),(1,1),(2,1),(3,1),(4,1),(5,1),(6,1)]:=by kernel_rfl
theorem fl25_0 : fldOf Tryz.prog 25 0 = some (0,1):=by kernel_rfl
theorem pt25_0 : partOf Tryz.prog 25 0 = some (0,1):=by kernel_rfl
theorem fl25_1 : fldOf Tryz.prog 25 1 = some (1,1):=by kernel_rfl
theorem pt25_1 : partOf Tryz.prog 25 1 = some (1,1):=by kernel_rfl
theorem fl25_2 : fldOf Tryz.prog 25 2 = some (2,1):=by kernel_rfl
theorem pt25_2 : partOf Tryz.prog 25 2 = some (2,1):=by kernel_rfl
theorem fl25_3 : fldOf Tryz.prog 25 3 = some (3,1):=by kernel_rfl
theorem pt25_3 : partOf Tryz.prog 25 3 = some (3,1):=by kernel_rfl
theorem fl25_4 : fldOf Tryz.prog 25 4 = some (4,1):=by kernel_rfl
theorem pt25_4 : partOf Tryz.prog 25 4 = some (4,1):=by kernel_rfl
theorem fl25_5 : fldOf Tryz.prog 25 5 = some (5,1):=by kernel_rfl
theorem pt25_5 : partOf Tryz.prog 25 5 = some (5,1):=by kernel_rfl
theorem fl25_6 : fldOf Tryz.prog 25 6 = some (6,1):=by kernel_rfl
theorem pt25_6 : partOf Tryz.prog 25 6 = some (6,1):=by kernel_rfl
theorem sz26 : szOf Tryz.prog 26 = some 1:=by kernel_rfl
theorem ag26 : aggB Tryz.prog 26 = some false:=by kernel_rfl
theorem zr26 : zeroS Tryz.prog 26 = some (.nil):=by kernel_rfl
theorem el26 : elemSz Tryz.prog 26 = some 6:=by kernel_rfl
theorem un26 : Tryz.prog.underlying 26 = some (.slice 28):=by kernel_rfl
theorem by26 : elemBy Tryz.prog 26 = some 96:=by kernel_rfl
theorem ez26 : elemZ Tryz.prog 26 = true:=by kernel_rfl
theorem sz28 : szOf Tryz.prog 28 = some 6:=by kernel_rfl
theorem ag28 : aggB Tryz.prog 28 = some true:=by kernel_rfl
theorem zr28 : zeroS Tryz.prog 28 = some (.agg [.d (.v (.int .i64 0)),.d (.v (.string ⟨#[]⟩)),.d (.v (.int .i64 0)),.d (.v (.string ⟨#[]⟩)),.nil,.nil]):=by kernel_rfl
theorem pl28 : plcs Tryz.prog 28 = some [(0,1),(1,1),(2,1),(3,1),(4,1),(5,1)]:=by kernel_rfl
theorem fl28_0 : fldOf Tryz.prog 28 0 = some (0,1):=by kernel_rfl
theorem pt28_0 : partOf Tryz.prog 28 0 = some (0,1):=by kernel_rfl
theorem fl28_1 : fldOf Tryz.prog 28 1 = some (1,1):=by kernel_rfl
theorem pt28_1 : partOf Tryz.prog 28 1 = some (1,1):=by kernel_rfl
theorem fl28_2 : fldOf Tryz.prog 28 2 = some (2,1):=by kernel_rfl
theorem pt28_2 : partOf Tryz.prog 28 2 = some (2,1):=by kernel_rfl
theorem fl28_3 : fldOf Tryz.prog 28 3 = some (3,1):=by kernel_rfl
theorem pt28_3 : partOf Tryz.prog 28 3 = some (3,1):=by kernel_rfl
theorem fl28_4 : fldOf Tryz.prog 28 4 = some (4,1):=by kernel_rfl
theorem pt28_4 : partOf Tryz.prog 28 4 = some (4,1):=by kernel_rfl
theorem fl28_5 : fldOf Tryz.prog 28 5 = some (5,1):=by kernel_rfl
theorem pt28_5 : partOf Tryz.prog 28 5 = some (5,1):=by kernel_rfl
theorem sz29 : szOf Tryz.prog 29 = some 1:=by kernel_rfl
theorem ag29 : aggB Tryz.prog 29 = some false:=by kernel_rfl
theorem zr29 : zeroS Tryz.prog 29 = some (.d (.v (.int .i64 0))):=by kernel_rfl
theorem un29 : Tryz.prog.underlying 29 = some (.int .i64):=by kernel_rfl
theorem sz30 : szOf Tryz.prog 30 = some 1:=by kernel_rfl
theorem ag30 : aggB Tryz.prog 30 = some false:=by kernel_rfl
-- no zero of 30: tuple tuple 2 agg 6 int i64 0 string
theorem sz34 : szOf Tryz.prog 34 = some 1:=by kernel_rfl
theorem ag34 : aggB Tryz.prog 34 = some false:=by kernel_rfl
-- no zero of 34: tuple tuple 2 slice - 0 0 int i64
theorem sz36 : szOf Tryz.prog 36 = some 1:=by kernel_rfl
theorem ag36 : aggB Tryz.prog 36 = some false:=by kernel_rfl
theorem zr36 : zeroS Tryz.prog 36 = some (.nil):=by kernel_rfl
theorem el36 : elemSz Tryz.prog 36 = some 5:=by kernel_rfl
theorem un36 : Tryz.prog.underlying 36 = some (.slice 38):=by kernel_rfl
theorem by36 : elemBy Tryz.prog 36 = some 80:=by kernel_rfl
theorem ez36 : elemZ Tryz.prog 36 = true:=by kernel_rfl
theorem sz37 : szOf Tryz.prog 37 = some 5:=by kernel_rfl
theorem ag37 : aggB Tryz.prog 37 = some true:=by kernel_rfl
theorem zr37 : zeroS Tryz.prog 37 = some (.agg [.d (.v (.int .i64 0)),.d (.v (.int .i64 0)),.d (.v (.string ⟨#[]⟩)),.nil,.nil]):=by kernel_rfl
theorem pl37 : plcs Tryz.prog 37 = some [(0,1),(1,1),(2,1),(3,1),(4,1)]:=by kernel_rfl
theorem fl37_0 : fldOf Tryz.prog 37 0 = some (0,1):=by kernel_rfl
theorem pt37_0 : partOf Tryz.prog 37 0 = some (0,1):=by kernel_rfl
theorem fl37_1 : fldOf Tryz.prog 37 1 = some (1,1):=by kernel_rfl
theorem pt37_1 : partOf Tryz.prog 37 1 = some (1,1):=by kernel_rfl
theorem fl37_2 : fldOf Tryz.prog 37 2 = some (2,1):=by kernel_rfl
theorem pt37_2 : partOf Tryz.prog 37 2 = some (2,1):=by kernel_rfl
theorem fl37_3 : fldOf Tryz.prog 37 3 = some (3,1):=by kernel_rfl
theorem pt37_3 : partOf Tryz.prog 37 3 = some (3,1):=by kernel_rfl
theorem fl37_4 : fldOf Tryz.prog 37 4 = some (4,1):=by kernel_rfl
theorem pt37_4 : partOf Tryz.prog 37 4 = some (4,1):=by kernel_rfl
theorem sz38 : szOf Tryz.prog 38 = some 5:=by kernel_rfl
theorem ag38 : aggB Tryz.prog 38 = some true:=by kernel_rfl
theorem zr38 : zeroS Tryz.prog 38 = some (.agg [.d (.v (.int .i64 0)),.d (.v (.int .i64 0)),.d (.v (.string ⟨#[]⟩)),.nil,.nil]):=by kernel_rfl
theorem pl38 : plcs Tryz.prog 38 = some [(0,1),(1,1),(2,1),(3,1),(4,1)]:=by kernel_rfl
theorem fl38_0 : fldOf Tryz.prog 38 0 = some (0,1):=by kernel_rfl
theorem pt38_0 : partOf Tryz.prog 38 0 = some (0,1):=by kernel_rfl
theorem fl38_1 : fldOf Tryz.prog 38 1 = some (1,1):=by kernel_rfl
theorem pt38_1 : partOf Tryz.prog 38 1 = some (1,1):=by kernel_rfl
theorem fl38_2 : fldOf Tryz.prog 38 2 = some (2,1):=by kernel_rfl
theorem pt38_2 : partOf Tryz.prog 38 2 = some (2,1):=by kernel_rfl
theorem fl38_3 : fldOf Tryz.prog 38 3 = some (3,1):=by kernel_rfl
theorem pt38_3 : partOf Tryz.prog 38 3 = some (3,1):=by kernel_rfl
theorem fl38_4 : fldOf Tryz.prog 38 4 = some (4,1):=by kernel_rfl
theorem pt38_4 : partOf Tryz.prog 38 4 = some (4,1):=by kernel_rfl
theorem sz39 : szOf Tryz.prog 39 = some 1:=by kernel_rfl
theorem ag39 : aggB Tryz.prog 39 = some false:=by kernel_rfl
-- no zero of 39: tuple tuple 2 agg 5 int i64 0 int
theorem sz41 : szOf Tryz.prog 41 = some 1:=by kernel_rfl
theorem ag41 : aggB Tryz.prog 41 = some false:=by kernel_rfl
-- no zero of 41: tuple tuple 2 bool 0 int i64 0 0
theorem sz44 : szOf Tryz.prog 44 = some 1:=by kernel_rfl
theorem ag44 : aggB Tryz.prog 44 = some false:=by kernel_rfl
theorem zr44 : zeroS Tryz.prog 44 = some (.nil):=by kernel_rfl
theorem el44 : elemSz Tryz.prog 44 = some 1:=by kernel_rfl
theorem un44 : Tryz.prog.underlying 44 = some (.slice 3):=by kernel_rfl
theorem by44 : elemBy Tryz.prog 44 = some 8:=by kernel_rfl
theorem ez44 : elemZ Tryz.prog 44 = true:=by kernel_rfl
theorem sz46 : szOf Tryz.prog 46 = some 1:=by kernel_rfl
theorem ag46 : aggB Tryz.prog 46 = some false:=by kernel_rfl
-- no zero of 46: tuple tuple 3 slice - 0 0 slice -
theorem sz51 : szOf Tryz.prog 51 = some 1:=by kernel_rfl
theorem ag51 : aggB Tryz.prog 51 = some false:=by kernel_rfl
-- no zero of 51: tuple tuple 2 agg 7 int i64 0 string
theorem sz59 : szOf Tryz.prog 59 = some 1:=by kernel_rfl
theorem ag59 : aggB Tryz.prog 59 = some false:=by kernel_rfl
-- no zero of 59: tuple tuple 2 agg 6 int i64 0 string
theorem sz80 : szOf Tryz.prog 80 = some 1:=by kernel_rfl
theorem ag80 : aggB Tryz.prog 80 = some false:=by kernel_rfl
theorem zr80 : zeroS Tryz.prog 80 = some (.nil):=by kernel_rfl
theorem el80 : elemSz Tryz.prog 80 = some 4:=by kernel_rfl
theorem un80 : Tryz.prog.underlying 80 = some (.slice 156):=by kernel_rfl
theorem by80 : elemBy Tryz.prog 80 = some 64:=by kernel_rfl
theorem ez80 : elemZ Tryz.prog 80 = true:=by kernel_rfl
theorem sz81 : szOf Tryz.prog 81 = some 1:=by kernel_rfl
theorem ag81 : aggB Tryz.prog 81 = some false:=by kernel_rfl
-- no zero of 81: tuple tuple 2 slice - 0 0 int i64
theorem sz93 : szOf Tryz.prog 93 = some 1:=by kernel_rfl
theorem ag93 : aggB Tryz.prog 93 = some false:=by kernel_rfl
theorem zr93 : zeroS Tryz.prog 93 = some (.d (.v (.map none))):=by kernel_rfl
theorem un93 : Tryz.prog.underlying 93 = some (.map 9 3):=by kernel_rfl
theorem mo93 : mapOf Tryz.prog 93 = some (9,(.int .i64 0)):=by kernel_rfl
theorem sz149 : szOf Tryz.prog 149 = some 1:=by kernel_rfl
theorem ag149 : aggB Tryz.prog 149 = some true:=by kernel_rfl
theorem zr149 : zeroS Tryz.prog 149 = some (.agg [.nil]):=by kernel_rfl
theorem pl149 : plcs Tryz.prog 149 = some [(0,1)]:=by kernel_rfl
theorem fl149_0 : fldOf Tryz.prog 149 0 = some (0,1):=by kernel_rfl
theorem pt149_0 : partOf Tryz.prog 149 0 = some (0,1):=by kernel_rfl
theorem sz150 : szOf Tryz.prog 150 = some 1:=by kernel_rfl
theorem ag150 : aggB Tryz.prog 150 = some true:=by kernel_rfl
theorem zr150 : zeroS Tryz.prog 150 = some (.agg [.nil]):=by kernel_rfl
theorem pl150 : plcs Tryz.prog 150 = some [(0,1)]:=by kernel_rfl
theorem fl150_0 : fldOf Tryz.prog 150 0 = some (0,1):=by kernel_rfl
theorem pt150_0 : partOf Tryz.prog 150 0 = some (0,1):=by kernel_rfl
theorem sz152 : szOf Tryz.prog 152 = some 1:=by kernel_rfl
theorem ag152 : aggB Tryz.prog 152 = some false:=by kernel_rfl
theorem zr152 : zeroS Tryz.prog 152 = some (.d (.v .nilFunc)):=by kernel_rfl
theorem sz155 : szOf Tryz.prog 155 = some 4:=by kernel_rfl
theorem ag155 : aggB Tryz.prog 155 = some true:=by kernel_rfl
theorem zr155 : zeroS Tryz.prog 155 = some (.agg [.d (.v (.int .i64 0)),.d (.v (.int .i64 0)),.nil,.nil]):=by kernel_rfl
theorem pl155 : plcs Tryz.prog 155 = some [(0,1),(1,1),(2,1),(3,1)]:=by kernel_rfl
theorem fl155_0 : fldOf Tryz.prog 155 0 = some (0,1):=by kernel_rfl
theorem pt155_0 : partOf Tryz.prog 155 0 = some (0,1):=by kernel_rfl
theorem fl155_1 : fldOf Tryz.prog 155 1 = some (1,1):=by kernel_rfl
theorem pt155_1 : partOf Tryz.prog 155 1 = some (1,1):=by kernel_rfl
theorem fl155_2 : fldOf Tryz.prog 155 2 = some (2,1):=by kernel_rfl
theorem pt155_2 : partOf Tryz.prog 155 2 = some (2,1):=by kernel_rfl
theorem fl155_3 : fldOf Tryz.prog 155 3 = some (3,1):=by kernel_rfl
theorem pt155_3 : partOf Tryz.prog 155 3 = some (3,1):=by kernel_rfl
theorem sz156 : szOf Tryz.prog 156 = some 4:=by kernel_rfl
theorem ag156 : aggB Tryz.prog 156 = some true:=by kernel_rfl
theorem zr156 : zeroS Tryz.prog 156 = some (.agg [.d (.v (.int .i64 0)),.d (.v (.int .i64 0)),.nil,.nil]):=by kernel_rfl
theorem pl156 : plcs Tryz.prog 156 = some [(0,1),(1,1),(2,1),(3,1)]:=by kernel_rfl
theorem fl156_0 : fldOf Tryz.prog 156 0 = some (0,1):=by kernel_rfl
theorem pt156_0 : partOf Tryz.prog 156 0 = some (0,1):=by kernel_rfl
theorem fl156_1 : fldOf Tryz.prog 156 1 = some (1,1):=by kernel_rfl
theorem pt156_1 : partOf Tryz.prog 156 1 = some (1,1):=by kernel_rfl
theorem fl156_2 : fldOf Tryz.prog 156 2 = some (2,1):=by kernel_rfl
theorem pt156_2 : partOf Tryz.prog 156 2 = some (2,1):=by kernel_rfl
theorem fl156_3 : fldOf Tryz.prog 156 3 = some (3,1):=by kernel_rfl
theorem pt156_3 : partOf Tryz.prog 156 3 = some (3,1):=by kernel_rfl
theorem sz175 : szOf Tryz.prog 175 = some 1:=by kernel_rfl
theorem ag175 : aggB Tryz.prog 175 = some false:=by kernel_rfl
theorem zr175 : zeroS Tryz.prog 175 = some (.nil):=by kernel_rfl
theorem el175 : elemSz Tryz.prog 175 = some 1:=by kernel_rfl
theorem un175 : Tryz.prog.underlying 175 = some (.slice 5):=by kernel_rfl
theorem by175 : elemBy Tryz.prog 175 = some 1:=by kernel_rfl
theorem ez175 : elemZ Tryz.prog 175 = true:=by kernel_rfl
theorem sz198 : szOf Tryz.prog 198 = some 1:=by kernel_rfl
theorem ag198 : aggB Tryz.prog 198 = some false:=by kernel_rfl
-- no zero of 198: tuple tuple 2 int i64 0 bool 0 0
theorem sz201 : szOf Tryz.prog 201 = some 1:=by kernel_rfl
theorem ag201 : aggB Tryz.prog 201 = some false:=by kernel_rfl
theorem zr201 : zeroS Tryz.prog 201 = some (.d (.v (.int .u32 0))):=by kernel_rfl
theorem un201 : Tryz.prog.underlying 201 = some (.int .u32):=by kernel_rfl
theorem sz205 : szOf Tryz.prog 205 = some 1:=by kernel_rfl
theorem ag205 : aggB Tryz.prog 205 = some false:=by kernel_rfl
theorem zr205 : zeroS Tryz.prog 205 = some (.d (.v (.map none))):=by kernel_rfl
theorem un205 : Tryz.prog.underlying 205 = some (.map 3 3):=by kernel_rfl
theorem mo205 : mapOf Tryz.prog 205 = some (3,(.int .i64 0)):=by kernel_rfl
theorem sz240 : szOf Tryz.prog 240 = some 256:=by kernel_rfl
theorem ag240 : aggB Tryz.prog 240 = some true:=by kernel_rfl
theorem zr240 : zeroS Tryz.prog 240 = some (.agg [.d (.v (.bool false)),.d (.v (.bool false)),.d (.v (.bool false)),.d (.v (.bool false)),.d (.v (.bool false)),.d (.v (.bool false)),.d (.v (.bool false)),.d (.v (.bool false)),.d (.v (.bool false)),.d (.v (.bool false)),.d (.v (.bool false)),.d (.v (.bool false)),.d (.v (.bool false)),.d (.v (.bool false)),.d (.v (.bool false)),.d (.v (.bool false)),.d (.v (.bool false)),.d (.v (.bool false)),.d (.v (.bool false)),.d (.v (.bool false)),.d (.v (.bool false)),.d (.v (.bool false)),.d (.v (.bool false)),.d (.v (.bool false)),.d (.v (.bool false)),.d (.v (.bool false)),.d (.v (.bool false)),.d (.v (.bool false)),.d (.v (.bool false)),.d (.v (.bool false)),.d (.v (.bool false)),.d (.v (.bool false)),.d (.v (.bool false)),.d (.v (.bool false)),.d (.v (.bool false)),.d (.v (.bool false)),.d (.v (.bool false)),.d (.v (.bool false)),.d (.v (.bool false)),.d (.v (.bool false)),.d (.v (.bool false)),.d (.v (.bool false)),.d (.v (.bool false)),.d (.v (.bool false)),.d (.v (.bool false)),.d (.v (.bool false)),.d (.v (.bool false)),.d (.v (.bool false)),.d (.v (.bool false)),.d (.v (.bool false)),.d (.v (.bool false)),.d (.v (.bool false)),.d (.v (.bool false)),.d (.v (.bool false)),.d (.v (.bool false)),.d (.v (.bool false)),.d (.v (.bool false)),.d (.v (.bool false)),.d (.v (.bool false)),.d (.v (.bool false)),.d (.v (.bool false)),.d (.v (.bool false)),.d (.v (.bool false)),.d (.v (.bool false)),.d (.v (.bool false)),.d (.v (.bool false)),.d (.v (.bool false)),.d (.v (.bool false)),.d (.v (.bool false)),.d (.v (.bool false)),.d (.v (.bool false)),.d (.v (.bool false)),.d (.v (.bool false)),.d (.v (.bool false)),.d (.v (.bool false)),.d (.v (.bool false)),.d (.v (.bool false)),.d (.v (.bool false)),.d (.v (.bool false)),.d (.v (.bool false)),.d (.v (.bool false)),.d (.v (.bool false)),.d (.v (.bool false)),.d (.v (.bool false)),.d (.v (.bool false)),.d (.v (.bool false)),.d (.v (.bool false)),.d (.v (.bool false)),.d (.v (.bool false)),.d (.v (.bool false)),.d (.v (.bool false)),.d (.v (.bool false)),.d (.v (.bool false)),.d (.v (.bool false)),.d (.v (.bool false)),.d (.v (.bool false)),.d (.v (.bool false)),.d (.v (.bool false)),.d (.v (.bool false)),.d (.v (.bool false)),.d (.v (.bool false)),.d (.v (.bool false)),.d (.v (.bool false)),.d (.v (.bool false)),.d (.v (.bool false)),.d (.v (.bool false)),.d (.v (.bool false)),.d (.v (.bool false)),.d (.v (.bool false)),.d (.v (.bool false)),.d (.v (.bool false)),.d (.v (.bool false)),.d (.v (.bool false)),.d (.v (.bool false)),.d (.v (.bool false)),.d (.v (.bool false)),.d (.v (.bool false)),.d (.v (.bool false)),.d (.v (.bool false)),.d (.v (.bool false)),.d (.v (.bool false)),.d (.v (.bool false)),.d (.v (.bool false)),.d (.v (.bool false)),.d (.v (.bool false)),.d (.v (.bool false)),.d (.v (.bool false)),.d (.v (.bool false)),.d (.v (.bool false)),.d (.v (.bool false)),.d (.v (.bool false)),.d (.v (.bool false)),.d (.v (.bool false)),.d (.v (.bool false)),.d (.v (.bool false)),.d (.v (.bool false)),.d (.v (.bool false)),.d (.v (.bool false)),.d (.v (.bool false)),.d (.v (.bool false)),.d (.v (.bool false)),.d (.v (.bool false)),.d (.v (.bool false)),.d (.v (.bool false)),.d (.v (.bool false)),.d (.v (.bool false)),.d (.v (.bool false)),.d (.v (.bool false)),.d (.v (.bool false)),.d (.v (.bool false)),.d (.v (.bool false)),.d (.v (.bool false)),.d (.v (.bool false)),.d (.v (.bool false)),.d (.v (.bool false)),.d (.v (.bool false)),.d (.v (.bool false)),.d (.v (.bool false)),.d (.v (.bool false)),.d (.v (.bool false)),.d (.v (.bool false)),.d (.v (.bool false)),.d (.v (.bool false)),.d (.v (.bool false)),.d (.v (.bool false)),.d (.v (.bool false)),.d (.v (.bool false)),.d (.v (.bool false)),.d (.v (.bool false)),.d (.v (.bool false)),.d (.v (.bool false)),.d (.v (.bool false)),.d (.v (.bool false)),.d (.v (.bool false)),.d (.v (.bool false)),.d (.v (.bool false)),.d (.v (.bool false)),.d (.v (.bool false)),.d (.v (.bool false)),.d (.v (.bool false)),.d (.v (.bool false)),.d (.v (.bool false)),.d (.v (.bool false)),.d (.v (.bool false)),.d (.v (.bool false)),.d (.v (.bool false)),.d (.v (.bool false)),.d (.v (.bool false)),.d (.v (.bool false)),.d (.v (.bool false)),.d (.v (.bool false)),.d (.v (.bool false)),.d (.v (.bool false)),.d (.v (.bool false)),.d (.v (.bool false)),.d (.v (.bool false)),.d (.v (.bool false)),.d (.v (.bool false)),.d (.v (.bool false)),.d (.v (.bool false)),.d (.v (.bool false)),.d (.v (.bool false)),.d (.v (.bool false)),.d (.v (.bool false)),.d (.v (.bool false)),.d (.v (.bool false)),.d (.v (.bool false)),.d (.v (.bool false)),.d (.v (.bool false)),.d (.v (.bool false)),.d (.v (.bool false)),.d (.v (.bool false)),.d (.v (.bool false)),.d (.v (.bool false)),.d (.v (.bool false)),.d (.v (.bool false)),.d (.v (.bool false)),.d (.v (.bool false)),.d (.v (.bool false)),.d (.v (.bool false)),.d (.v (.bool false)),.d (.v (.bool false)),.d (.v (.bool false)),.d (.v (.bool false)),.d (.v (.bool false)),.d (.v (.bool false)),.d (.v (.bool false)),.d (.v (.bool false)),.d (.v (.bool false)),.d (.v (.bool false)),.d (.v (.bool false)),.d (.v (.bool false)),.d (.v (.bool false)),.d (.v (.bool false)),.d (.v (.bool false)),.d (.v (.bool false)),.d (.v (.bool false)),.d (.v (.bool false)),.d (.v (.bool false)),.d (.v (.bool false)),.d (.v (.bool false)),.d (.v (.bool false)),.d (.v (.bool false)),.d (.v (.bool false)),.d (.v (.bool false)),.d (.v (.bool false)),.d (.v (.bool false)),.d (.v (.bool false)),.d (.v (.bool false)),.d (.v (.bool false)),.d (.v (.bool false)),.d (.v (.bool false)),.d (.v (.bool false)),.d (.v (.bool false)),.d (.v (.bool false)),.d (.v (.bool false))]):=by kernel_rfl
theorem sz241 : szOf Tryz.prog 241 = some 256:=by kernel_rfl
theorem ag241 : aggB Tryz.prog 241 = some true:=by kernel_rfl
theorem zr241 : zeroS Tryz.prog 241 = some (.agg [.d (.v (.bool false)),.d (.v (.bool false)),.d (.v (.bool false)),.d (.v (.bool false)),.d (.v (.bool false)),.d (.v (.bool false)),.d (.v (.bool false)),.d (.v (.bool false)),.d (.v (.bool false)),.d (.v (.bool false)),.d (.v (.bool false)),.d (.v (.bool false)),.d (.v (.bool false)),.d (.v (.bool false)),.d (.v (.bool false)),.d (.v (.bool false)),.d (.v (.bool false)),.d (.v (.bool false)),.d (.v (.bool false)),.d (.v (.bool false)),.d (.v (.bool false)),.d (.v (.bool false)),.d (.v (.bool false)),.d (.v (.bool false)),.d (.v (.bool false)),.d (.v (.bool false)),.d (.v (.bool false)),.d (.v (.bool false)),.d (.v (.bool false)),.d (.v (.bool false)),.d (.v (.bool false)),.d (.v (.bool false)),.d (.v (.bool false)),.d (.v (.bool false)),.d (.v (.bool false)),.d (.v (.bool false)),.d (.v (.bool false)),.d (.v (.bool false)),.d (.v (.bool false)),.d (.v (.bool false)),.d (.v (.bool false)),.d (.v (.bool false)),.d (.v (.bool false)),.d (.v (.bool false)),.d (.v (.bool false)),.d (.v (.bool false)),.d (.v (.bool false)),.d (.v (.bool false)),.d (.v (.bool false)),.d (.v (.bool false)),.d (.v (.bool false)),.d (.v (.bool false)),.d (.v (.bool false)),.d (.v (.bool false)),.d (.v (.bool false)),.d (.v (.bool false)),.d (.v (.bool false)),.d (.v (.bool false)),.d (.v (.bool false)),.d (.v (.bool false)),.d (.v (.bool false)),.d (.v (.bool false)),.d (.v (.bool false)),.d (.v (.bool false)),.d (.v (.bool false)),.d (.v (.bool false)),.d (.v (.bool false)),.d (.v (.bool false)),.d (.v (.bool false)),.d (.v (.bool false)),.d (.v (.bool false)),.d (.v (.bool false)),.d (.v (.bool false)),.d (.v (.bool false)),.d (.v (.bool false)),.d (.v (.bool false)),.d (.v (.bool false)),.d (.v (.bool false)),.d (.v (.bool false)),.d (.v (.bool false)),.d (.v (.bool false)),.d (.v (.bool false)),.d (.v (.bool false)),.d (.v (.bool false)),.d (.v (.bool false)),.d (.v (.bool false)),.d (.v (.bool false)),.d (.v (.bool false)),.d (.v (.bool false)),.d (.v (.bool false)),.d (.v (.bool false)),.d (.v (.bool false)),.d (.v (.bool false)),.d (.v (.bool false)),.d (.v (.bool false)),.d (.v (.bool false)),.d (.v (.bool false)),.d (.v (.bool false)),.d (.v (.bool false)),.d (.v (.bool false)),.d (.v (.bool false)),.d (.v (.bool false)),.d (.v (.bool false)),.d (.v (.bool false)),.d (.v (.bool false)),.d (.v (.bool false)),.d (.v (.bool false)),.d (.v (.bool false)),.d (.v (.bool false)),.d (.v (.bool false)),.d (.v (.bool false)),.d (.v (.bool false)),.d (.v (.bool false)),.d (.v (.bool false)),.d (.v (.bool false)),.d (.v (.bool false)),.d (.v (.bool false)),.d (.v (.bool false)),.d (.v (.bool false)),.d (.v (.bool false)),.d (.v (.bool false)),.d (.v (.bool false)),.d (.v (.bool false)),.d (.v (.bool false)),.d (.v (.bool false)),.d (.v (.bool false)),.d (.v (.bool false)),.d (.v (.bool false)),.d (.v (.bool false)),.d (.v (.bool false)),.d (.v (.bool false)),.d (.v (.bool false)),.d (.v (.bool false)),.d (.v (.bool false)),.d (.v (.bool false)),.d (.v (.bool false)),.d (.v (.bool false)),.d (.v (.bool false)),.d (.v (.bool false)),.d (.v (.bool false)),.d (.v (.bool false)),.d (.v (.bool false)),.d (.v (.bool false)),.d (.v (.bool false)),.d (.v (.bool false)),.d (.v (.bool false)),.d (.v (.bool false)),.d (.v (.bool false)),.d (.v (.bool false)),.d (.v (.bool false)),.d (.v (.bool false)),.d (.v (.bool false)),.d (.v (.bool false)),.d (.v (.bool false)),.d (.v (.bool false)),.d (.v (.bool false)),.d (.v (.bool false)),.d (.v (.bool false)),.d (.v (.bool false)),.d (.v (.bool false)),.d (.v (.bool false)),.d (.v (.bool false)),.d (.v (.bool false)),.d (.v (.bool false)),.d (.v (.bool false)),.d (.v (.bool false)),.d (.v (.bool false)),.d (.v (.bool false)),.d (.v (.bool false)),.d (.v (.bool false)),.d (.v (.bool false)),.d (.v (.bool false)),.d (.v (.bool false)),.d (.v (.bool false)),.d (.v (.bool false)),.d (.v (.bool false)),.d (.v (.bool false)),.d (.v (.bool false)),.d (.v (.bool false)),.d (.v (.bool false)),.d (.v (.bool false)),.d (.v (.bool false)),.d (.v (.bool false)),.d (.v (.bool false)),.d (.v (.bool false)),.d (.v (.bool false)),.d (.v (.bool false)),.d (.v (.bool false)),.d (.v (.bool false)),.d (.v (.bool false)),.d (.v (.bool false)),.d (.v (.bool false)),.d (.v (.bool false)),.d (.v (.bool false)),.d (.v (.bool false)),.d (.v (.bool false)),.d (.v (.bool false)),.d (.v (.bool false)),.d (.v (.bool false)),.d (.v (.bool false)),.d (.v (.bool false)),.d (.v (.bool false)),.d (.v (.bool false)),.d (.v (.bool false)),.d (.v (.bool false)),.d (.v (.bool false)),.d (.v (.bool false)),.d (.v (.bool false)),.d (.v (.bool false)),.d (.v (.bool false)),.d (.v (.bool false)),.d (.v (.bool false)),.d (.v (.bool false)),.d (.v (.bool false)),.d (.v (.bool false)),.d (.v (.bool false)),.d (.v (.bool false)),.d (.v (.bool false)),.d (.v (.bool false)),.d (.v (.bool false)),.d (.v (.bool false)),.d (.v (.bool false)),.d (.v (.bool false)),.d (.v (.bool false)),.d (.v (.bool false)),.d (.v (.bool false)),.d (.v (.bool false)),.d (.v (.bool false)),.d (.v (.bool false)),.d (.v (.bool false)),.d (.v (.bool false)),.d (.v (.bool false)),.d (.v (.bool false)),.d (.v (.bool false)),.d (.v (.bool false)),.d (.v (.bool false)),.d (.v (.bool false)),.d (.v (.bool false)),.d (.v (.bool false)),.d (.v (.bool false)),.d (.v (.bool false)),.d (.v (.bool false)),.d (.v (.bool false)),.d (.v (.bool false)),.d (.v (.bool false)),.d (.v (.bool false)),.d (.v (.bool false)),.d (.v (.bool false)),.d (.v (.bool false)),.d (.v (.bool false)),.d (.v (.bool false)),.d (.v (.bool false)),.d (.v (.bool false)),.d (.v (.bool false)),.d (.v (.bool false)),.d (.v (.bool false))]):=by kernel_rfl
theorem sz242 : szOf Tryz.prog 242 = some 1:=by kernel_rfl
theorem ag242 : aggB Tryz.prog 242 = some false:=by kernel_rfl
-- no zero of 242: tuple tuple 2 agg 256 bool 0 bool 0
theorem sz245 : szOf Tryz.prog 245 = some 1:=by kernel_rfl
theorem ag245 : aggB Tryz.prog 245 = some false:=by kernel_rfl
theorem zr245 : zeroS Tryz.prog 245 = some (.d (.v (.pointer none))):=by kernel_rfl
open And renaming intro → ai
theorem TAS : tyOf (ai sz2 (ai ag2 (ai zr2 (ai un2 (ai sz3 (ai ag3 (ai zr3 (ai un3 (ai sz4 (ai ag4 (ai zr4 (ai sz5 (ai ag5 (ai zr5 (ai un5 (ai sz9 (ai ag9 (ai zr9 (ai un9 (ai sz22 (ai ag22 (ai zr22 (ai el22 (ai un22 (ai by22 (ai ez22 (ai sz23 (ai ag23 (ai zr23 (ai el23 (ai un23 (ai by23 (ai ez23 (ai sz25 (ai ag25 (ai zr25 (ai pl25 (ai fl25_0 (ai pt25_0 (ai fl25_1 (ai pt25_1 (ai fl25_2 (ai pt25_2 (ai fl25_3 (ai pt25_3 (ai fl25_4 (ai pt25_4 (ai fl25_5 (ai pt25_5 (ai fl25_6 (ai pt25_6 (ai sz26 (ai ag26 (ai zr26 (ai el26 (ai un26 (ai by26 (ai ez26 (ai sz28 (ai ag28 (ai zr28 (ai pl28 (ai fl28_0 (ai pt28_0 (ai fl28_1 (ai pt28_1 (ai fl28_2 (ai pt28_2 (ai fl28_3 (ai pt28_3 (ai fl28_4 (ai pt28_4 (ai fl28_5 (ai pt28_5 (ai sz29 (ai ag29 (ai zr29 (ai un29 (ai sz30 (ai ag30 (ai sz34 (ai ag34 (ai sz36 (ai ag36 (ai zr36 (ai el36 (ai un36 (ai by36 (ai ez36 (ai sz37 (ai ag37 (ai zr37 (ai pl37 (ai fl37_0 (ai pt37_0 (ai fl37_1 (ai pt37_1 (ai fl37_2 (ai pt37_2 (ai fl37_3 (ai pt37_3 (ai fl37_4 (ai pt37_4 (ai sz38 (ai ag38 (ai zr38 (ai pl38 (ai fl38_0 (ai pt38_0 (ai fl38_1 (ai pt38_1 (ai fl38_2 (ai pt38_2 (ai fl38_3 (ai pt38_3 (ai fl38_4 (ai pt38_4 (ai sz39 (ai ag39 (ai sz41 (ai ag41 (ai sz44 (ai ag44 (ai zr44 (ai el44 (ai un44 (ai by44 (ai ez44 (ai sz46 (ai ag46 (ai sz51 (ai ag51 (ai sz59 (ai ag59 (ai sz80 (ai ag80 (ai zr80 (ai el80 (ai un80 (ai by80 (ai ez80 (ai sz81 (ai ag81 (ai sz93 (ai ag93 (ai zr93 (ai un93 (ai mo93 (ai sz149 (ai ag149 (ai zr149 (ai pl149 (ai fl149_0 (ai pt149_0 (ai sz150 (ai ag150 (ai zr150 (ai pl150 (ai fl150_0 (ai pt150_0 (ai sz152 (ai ag152 (ai zr152 (ai sz155 (ai ag155 (ai zr155 (ai pl155 (ai fl155_0 (ai pt155_0 (ai fl155_1 (ai pt155_1 (ai fl155_2 (ai pt155_2 (ai fl155_3 (ai pt155_3 (ai sz156 (ai ag156 (ai zr156 (ai pl156 (ai fl156_0 (ai pt156_0 (ai fl156_1 (ai pt156_1 (ai fl156_2 (ai pt156_2 (ai fl156_3 (ai pt156_3 (ai sz175 (ai ag175 (ai zr175 (ai el175 (ai un175 (ai by175 (ai ez175 (ai sz198 (ai ag198 (ai sz201 (ai ag201 (ai zr201 (ai un201 (ai sz205 (ai ag205 (ai zr205 (ai un205 (ai mo205 (ai sz240 (ai ag240 (ai zr240 (ai sz241 (ai ag241 (ai zr241 (ai sz242 (ai ag242 (ai sz245 (ai ag245 zr245))))))))))))))))))))))))))))))))))))))))))))))))))))))))))))))))))))))))))))))))))))))))))))))))))))))))))))))))))))))))))))))))))))))))))))))))))))))))))))))))))))))))))))))))))))))))))))))))))))))))))))))))))))))) := tyOk _
theorem WA : tyOf (And.intro UN (And.intro LM (TAS))):=tyOk _
end Go.Proofs.YtdcplkefmpjppaaGreatDoor
