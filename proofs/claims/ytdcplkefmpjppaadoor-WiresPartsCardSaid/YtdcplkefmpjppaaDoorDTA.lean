/- Facts on the types that the walks meet: sizes, zeros, fields, elements. -/
import Derived.Test.YtdcplkefmpjppaaDoorSwB
import Derived.Test.YtdcplkefmpjppaaDoorSwD
import Derived.Test.YtdcplkefmpjppaaDoorProg
set_option linter.unusedVariables false
namespace Go.Proofs.YtdcplkefmpjppaaDoor
open Go.Sw
set_option maxRecDepth 100000

theorem sz2 : szOf Tryd.prog 2 = some 1:=by kernel_rfl
theorem ag2 : aggB Tryd.prog 2 = some false:=by kernel_rfl
theorem zr2 : zeroS Tryd.prog 2 = some (.d (.v (.int .i64 0))):=by kernel_rfl
theorem un2 : Tryd.prog.underlying 2 = some (.int .i64):=by kernel_rfl
theorem sz3 : szOf Tryd.prog 3 = some 1:=by kernel_rfl
theorem ag3 : aggB Tryd.prog 3 = some false:=by kernel_rfl
theorem zr3 : zeroS Tryd.prog 3 = some (.d (.v (.int .i64 0))):=by kernel_rfl
theorem un3 : Tryd.prog.underlying 3 = some (.int .i64):=by kernel_rfl
theorem sz4 : szOf Tryd.prog 4 = some 1:=by kernel_rfl
theorem ag4 : aggB Tryd.prog 4 = some false:=by kernel_rfl
theorem zr4 : zeroS Tryd.prog 4 = some (.d (.v (.bool false))):=by kernel_rfl
theorem sz5 : szOf Tryd.prog 5 = some 1:=by kernel_rfl
theorem ag5 : aggB Tryd.prog 5 = some false:=by kernel_rfl
theorem zr5 : zeroS Tryd.prog 5 = some (.d (.v (.int .u8 0))):=by kernel_rfl
theorem un5 : Tryd.prog.underlying 5 = some (.int .u8):=by kernel_rfl
theorem sz9 : szOf Tryd.prog 9 = some 1:=by kernel_rfl
theorem ag9 : aggB Tryd.prog 9 = some false:=by kernel_rfl
theorem zr9 : zeroS Tryd.prog 9 = some (.d (.v (.string ⟨#[]⟩))):=by kernel_rfl
theorem un9 : Tryd.prog.underlying 9 = some .string:=by kernel_rfl
theorem sz20 : szOf Tryd.prog 20 = some 1:=by kernel_rfl
theorem ag20 : aggB Tryd.prog 20 = some false:=by kernel_rfl
theorem zr20 : zeroS Tryd.prog 20 = some (.d (.v .nilIface)):=by kernel_rfl
theorem sz22 : szOf Tryd.prog 22 = some 1:=by kernel_rfl
theorem ag22 : aggB Tryd.prog 22 = some false:=by kernel_rfl
theorem zr22 : zeroS Tryd.prog 22 = some (.nil):=by kernel_rfl
theorem el22 : elemSz Tryd.prog 22 = some 1:=by kernel_rfl
theorem un22 : Tryd.prog.underlying 22 = some (.slice 9):=by kernel_rfl
theorem by22 : elemBy Tryd.prog 22 = some 16:=by kernel_rfl
theorem ez22 : elemZ Tryd.prog 22 = true:=by kernel_rfl
theorem sz23 : szOf Tryd.prog 23 = some 1:=by kernel_rfl
theorem ag23 : aggB Tryd.prog 23 = some false:=by kernel_rfl
theorem zr23 : zeroS Tryd.prog 23 = some (.nil):=by kernel_rfl
theorem el23 : elemSz Tryd.prog 23 = some 7:=by kernel_rfl
theorem un23 : Tryd.prog.underlying 23 = some (.slice 25):=by kernel_rfl
theorem by23 : elemBy Tryd.prog 23 = some 112:=by kernel_rfl
theorem ez23 : elemZ Tryd.prog 23 = true:=by kernel_rfl
theorem sz25 : szOf Tryd.prog 25 = some 7:=by kernel_rfl
theorem ag25 : aggB Tryd.prog 25 = some true:=by kernel_rfl
theorem zr25 : zeroS Tryd.prog 25 = some (.agg [.d (.v (.int .i64 0)),.d (.v (.string ⟨#[]⟩)),.d (.v (.string ⟨#[]⟩)),.d (.v (.int .i64 0)),.d (.v (.string ⟨#[]⟩)),.nil,.nil]):=by kernel_rfl
theorem pl25 : plcs Tryd.prog 25 = some [(0,1),(1,1),(2,1),(3,1),(4,1),(5,1),(6,1)]:=by kernel_rfl
theorem fl25_0 : fldOf Tryd.prog 25 0 = some (0,1):=by kernel_rfl
theorem pt25_0 : partOf Tryd.prog 25 0 = some (0,1):=by kernel_rfl
theorem fl25_1 : fldOf Tryd.prog 25 1 = some (1,1):=by kernel_rfl
theorem pt25_1 : partOf Tryd.prog 25 1 = some (1,1):=by kernel_rfl
theorem fl25_2 : fldOf Tryd.prog 25 2 = some (2,1):=by kernel_rfl
theorem pt25_2 : partOf Tryd.prog 25 2 = some (2,1):=by kernel_rfl
theorem fl25_3 : fldOf Tryd.prog 25 3 = some (3,1):=by kernel_rfl
theorem pt25_3 : partOf Tryd.prog 25 3 = some (3,1):=by kernel_rfl
theorem fl25_4 : fldOf Tryd.prog 25 4 = some (4,1):=by kernel_rfl
theorem pt25_4 : partOf Tryd.prog 25 4 = some (4,1):=by kernel_rfl
theorem fl25_5 : fldOf Tryd.prog 25 5 = some (5,1):=by kernel_rfl
theorem pt25_5 : partOf Tryd.prog 25 5 = some (5,1):=by kernel_rfl
theorem fl25_6 : fldOf Tryd.prog 25 6 = some (6,1):=by kernel_rfl
theorem pt25_6 : partOf Tryd.prog 25 6 = some (6,1):=by kernel_rfl
theorem sz26 : szOf Tryd.prog 26 = some 1:=by kernel_rfl
theorem ag26 : aggB Tryd.prog 26 = some false:=by kernel_rfl
theorem zr26 : zeroS Tryd.prog 26 = some (.d (.v (.int .i64 0))):=by kernel_rfl
theorem un26 : Tryd.prog.underlying 26 = some (.int .i64):=by kernel_rfl
theorem sz27 : szOf Tryd.prog 27 = some 1:=by kernel_rfl
theorem ag27 : aggB Tryd.prog 27 = some false:=by kernel_rfl
-- no zero of 27: tuple tuple 2 string x int i64 0 0
theorem sz30 : szOf Tryd.prog 30 = some 2:=by kernel_rfl
theorem ag30 : aggB Tryd.prog 30 = some true:=by kernel_rfl
theorem zr30 : zeroS Tryd.prog 30 = some (.agg [.d (.v (.int .i64 0)),.d (.v (.int .i64 0))]):=by kernel_rfl
theorem pl30 : plcs Tryd.prog 30 = some [(0,1),(1,1)]:=by kernel_rfl
theorem fl30_0 : fldOf Tryd.prog 30 0 = some (0,1):=by kernel_rfl
theorem pt30_0 : partOf Tryd.prog 30 0 = some (0,1):=by kernel_rfl
theorem fl30_1 : fldOf Tryd.prog 30 1 = some (1,1):=by kernel_rfl
theorem pt30_1 : partOf Tryd.prog 30 1 = some (1,1):=by kernel_rfl
theorem sz35 : szOf Tryd.prog 35 = some 1:=by kernel_rfl
theorem ag35 : aggB Tryd.prog 35 = some false:=by kernel_rfl
-- no zero of 35: tuple tuple 2 agg 7 int i64 0 string
theorem sz38 : szOf Tryd.prog 38 = some 1:=by kernel_rfl
theorem ag38 : aggB Tryd.prog 38 = some false:=by kernel_rfl
-- no zero of 38: tuple tuple 2 slice - 0 0 int i64
theorem sz51 : szOf Tryd.prog 51 = some 1:=by kernel_rfl
theorem ag51 : aggB Tryd.prog 51 = some false:=by kernel_rfl
theorem zr51 : zeroS Tryd.prog 51 = some (.nil):=by kernel_rfl
theorem el51 : elemSz Tryd.prog 51 = some 5:=by kernel_rfl
theorem un51 : Tryd.prog.underlying 51 = some (.slice 53):=by kernel_rfl
theorem by51 : elemBy Tryd.prog 51 = some 80:=by kernel_rfl
theorem ez51 : elemZ Tryd.prog 51 = true:=by kernel_rfl
theorem sz52 : szOf Tryd.prog 52 = some 5:=by kernel_rfl
theorem ag52 : aggB Tryd.prog 52 = some true:=by kernel_rfl
theorem zr52 : zeroS Tryd.prog 52 = some (.agg [.d (.v (.int .i64 0)),.d (.v (.int .i64 0)),.d (.v (.string ⟨#[]⟩)),.nil,.nil]):=by kernel_rfl
theorem pl52 : plcs Tryd.prog 52 = some [(0,1),(1,1),(2,1),(3,1),(4,1)]:=by kernel_rfl
theorem fl52_0 : fldOf Tryd.prog 52 0 = some (0,1):=by kernel_rfl
theorem pt52_0 : partOf Tryd.prog 52 0 = some (0,1):=by kernel_rfl
theorem fl52_1 : fldOf Tryd.prog 52 1 = some (1,1):=by kernel_rfl
theorem pt52_1 : partOf Tryd.prog 52 1 = some (1,1):=by kernel_rfl
theorem fl52_2 : fldOf Tryd.prog 52 2 = some (2,1):=by kernel_rfl
theorem pt52_2 : partOf Tryd.prog 52 2 = some (2,1):=by kernel_rfl
theorem fl52_3 : fldOf Tryd.prog 52 3 = some (3,1):=by kernel_rfl
theorem pt52_3 : partOf Tryd.prog 52 3 = some (3,1):=by kernel_rfl
theorem fl52_4 : fldOf Tryd.prog 52 4 = some (4,1):=by kernel_rfl
theorem pt52_4 : partOf Tryd.prog 52 4 = some (4,1):=by kernel_rfl
theorem sz53 : szOf Tryd.prog 53 = some 5:=by kernel_rfl
theorem ag53 : aggB Tryd.prog 53 = some true:=by kernel_rfl
theorem zr53 : zeroS Tryd.prog 53 = some (.agg [.d (.v (.int .i64 0)),.d (.v (.int .i64 0)),.d (.v (.string ⟨#[]⟩)),.nil,.nil]):=by kernel_rfl
theorem pl53 : plcs Tryd.prog 53 = some [(0,1),(1,1),(2,1),(3,1),(4,1)]:=by kernel_rfl
theorem fl53_0 : fldOf Tryd.prog 53 0 = some (0,1):=by kernel_rfl
theorem pt53_0 : partOf Tryd.prog 53 0 = some (0,1):=by kernel_rfl
theorem fl53_1 : fldOf Tryd.prog 53 1 = some (1,1):=by kernel_rfl
theorem pt53_1 : partOf Tryd.prog 53 1 = some (1,1):=by kernel_rfl
theorem fl53_2 : fldOf Tryd.prog 53 2 = some (2,1):=by kernel_rfl
theorem pt53_2 : partOf Tryd.prog 53 2 = some (2,1):=by kernel_rfl
theorem fl53_3 : fldOf Tryd.prog 53 3 = some (3,1):=by kernel_rfl
theorem pt53_3 : partOf Tryd.prog 53 3 = some (3,1):=by kernel_rfl
theorem fl53_4 : fldOf Tryd.prog 53 4 = some (4,1):=by kernel_rfl
theorem pt53_4 : partOf Tryd.prog 53 4 = some (4,1):=by kernel_rfl
theorem sz56 : szOf Tryd.prog 56 = some 1:=by kernel_rfl
theorem ag56 : aggB Tryd.prog 56 = some false:=by kernel_rfl
-- no zero of 56: tuple tuple 2 slice - 0 0 agg 2
theorem sz80 : szOf Tryd.prog 80 = some 1:=by kernel_rfl
theorem ag80 : aggB Tryd.prog 80 = some false:=by kernel_rfl
theorem zr80 : zeroS Tryd.prog 80 = some (.d (.v (.map none))):=by kernel_rfl
theorem un80 : Tryd.prog.underlying 80 = some (.map 9 3):=by kernel_rfl
theorem mo80 : mapOf Tryd.prog 80 = some (9,(.int .i64 0)):=by kernel_rfl
theorem sz93 : szOf Tryd.prog 93 = some 1:=by kernel_rfl
theorem ag93 : aggB Tryd.prog 93 = some false:=by kernel_rfl
theorem zr93 : zeroS Tryd.prog 93 = some (.nil):=by kernel_rfl
theorem el93 : elemSz Tryd.prog 93 = some 1:=by kernel_rfl
theorem un93 : Tryd.prog.underlying 93 = some (.slice 5):=by kernel_rfl
theorem by93 : elemBy Tryd.prog 93 = some 1:=by kernel_rfl
theorem ez93 : elemZ Tryd.prog 93 = true:=by kernel_rfl
theorem sz97 : szOf Tryd.prog 97 = some 1:=by kernel_rfl
theorem ag97 : aggB Tryd.prog 97 = some false:=by kernel_rfl
theorem zr97 : zeroS Tryd.prog 97 = some (.d (.v (.int .u64 0))):=by kernel_rfl
theorem un97 : Tryd.prog.underlying 97 = some (.int .u64):=by kernel_rfl
theorem sz100 : szOf Tryd.prog 100 = some 1:=by kernel_rfl
theorem ag100 : aggB Tryd.prog 100 = some false:=by kernel_rfl
theorem zr100 : zeroS Tryd.prog 100 = some (.d (.v (.pointer none))):=by kernel_rfl
theorem sz102 : szOf Tryd.prog 102 = some 2:=by kernel_rfl
theorem ag102 : aggB Tryd.prog 102 = some true:=by kernel_rfl
theorem zr102 : zeroS Tryd.prog 102 = some (.agg [.d (.v (.string ⟨#[]⟩)),.d (.v (.int .i64 0))]):=by kernel_rfl
theorem pl102 : plcs Tryd.prog 102 = some [(0,1),(1,1)]:=by kernel_rfl
theorem fl102_0 : fldOf Tryd.prog 102 0 = some (0,1):=by kernel_rfl
theorem pt102_0 : partOf Tryd.prog 102 0 = some (0,1):=by kernel_rfl
theorem fl102_1 : fldOf Tryd.prog 102 1 = some (1,1):=by kernel_rfl
theorem pt102_1 : partOf Tryd.prog 102 1 = some (1,1):=by kernel_rfl
theorem sz103 : szOf Tryd.prog 103 = some 1:=by kernel_rfl
theorem ag103 : aggB Tryd.prog 103 = some false:=by kernel_rfl
theorem zr103 : zeroS Tryd.prog 103 = some (.d (.v (.int .i64 0))):=by kernel_rfl
theorem un103 : Tryd.prog.underlying 103 = some (.int .i64):=by kernel_rfl
theorem sz115 : szOf Tryd.prog 115 = some 1:=by kernel_rfl
theorem ag115 : aggB Tryd.prog 115 = some false:=by kernel_rfl
theorem zr115 : zeroS Tryd.prog 115 = some (.nil):=by kernel_rfl
theorem el115 : elemSz Tryd.prog 115 = some 1:=by kernel_rfl
theorem un115 : Tryd.prog.underlying 115 = some (.slice 3):=by kernel_rfl
theorem by115 : elemBy Tryd.prog 115 = some 8:=by kernel_rfl
theorem ez115 : elemZ Tryd.prog 115 = true:=by kernel_rfl
theorem sz129 : szOf Tryd.prog 129 = some 1:=by kernel_rfl
theorem ag129 : aggB Tryd.prog 129 = some false:=by kernel_rfl
-- no zero of 129: tuple tuple 2 agg 5 int i64 0 int
theorem sz148 : szOf Tryd.prog 148 = some 1:=by kernel_rfl
theorem ag148 : aggB Tryd.prog 148 = some false:=by kernel_rfl
-- no zero of 148: tuple tuple 2 int i64 0 bool 0 0
theorem sz151 : szOf Tryd.prog 151 = some 1:=by kernel_rfl
theorem ag151 : aggB Tryd.prog 151 = some false:=by kernel_rfl
theorem zr151 : zeroS Tryd.prog 151 = some (.d (.v (.int .u32 0))):=by kernel_rfl
theorem un151 : Tryd.prog.underlying 151 = some (.int .u32):=by kernel_rfl
theorem sz159 : szOf Tryd.prog 159 = some 256:=by kernel_rfl
theorem ag159 : aggB Tryd.prog 159 = some true:=by kernel_rfl
theorem zr159 : zeroS Tryd.prog 159 = some (.agg [.d (.v (.bool false)),.d (.v (.bool false)),.d (.v (.bool false)),.d (.v (.bool false)),.d (.v (.bool false)),.d (.v (.bool false)),.d (.v (.bool false)),.d (.v (.bool false)),.d (.v (.bool false)),.d (.v (.bool false)),.d (.v (.bool false)),.d (.v (.bool false)),.d (.v (.bool false)),.d (.v (.bool false)),.d (.v (.bool false)),.d (.v (.bool false)),.d (.v (.bool false)),.d (.v (.bool false)),.d (.v (.bool false)),.d (.v (.bool false)),.d (.v (.bool false)),.d (.v (.bool false)),.d (.v (.bool false)),.d (.v (.bool false)),.d (.v (.bool false)),.d (.v (.bool false)),.d (.v (.bool false)),.d (.v (.bool false)),.d (.v (.bool false)),.d (.v (.bool false)),.d (.v (.bool false)),.d (.v (.bool false)),.d (.v (.bool false)),.d (.v (.bool false)),.d (.v (.bool false)),.d (.v (.bool false)),.d (.v (.bool false)),.d (.v (.bool false)),.d (.v (.bool false)),.d (.v (.bool false)),.d (.v (.bool false)),.d (.v (.bool false)),.d (.v (.bool false)),.d (.v (.bool false)),.d (.v (.bool false)),.d (.v (.bool false)),.d (.v (.bool false)),.d (.v (.bool false)),.d (.v (.bool false)),.d (.v (.bool false)),.d (.v (.bool false)),.d (.v (.bool false)),.d (.v (.bool false)),.d (.v (.bool false)),.d (.v (.bool false)),.d (.v (.bool false)),.d (.v (.bool false)),.d (.v (.bool false)),.d (.v (.bool false)),.d (.v (.bool false)),.d (.v (.bool false)),.d (.v (.bool false)),.d (.v (.bool false)),.d (.v (.bool false)),.d (.v (.bool false)),.d (.v (.bool false)),.d (.v (.bool false)),.d (.v (.bool false)),.d (.v (.bool false)),.d (.v (.bool false)),.d (.v (.bool false)),.d (.v (.bool false)),.d (.v (.bool false)),.d (.v (.bool false)),.d (.v (.bool false)),.d (.v (.bool false)),.d (.v (.bool false)),.d (.v (.bool false)),.d (.v (.bool false)),.d (.v (.bool false)),.d (.v (.bool false)),.d (.v (.bool false)),.d (.v (.bool false)),.d (.v (.bool false)),.d (.v (.bool false)),.d (.v (.bool false)),.d (.v (.bool false)),.d (.v (.bool false)),.d (.v (.bool false)),.d (.v (.bool false)),.d (.v (.bool false)),.d (.v (.bool false)),.d (.v (.bool false)),.d (.v (.bool false)),.d (.v (.bool false)),.d (.v (.bool false)),.d (.v (.bool false)),.d (.v (.bool false)),.d (.v (.bool false)),.d (.v (.bool false)),.d (.v (.bool false)),.d (.v (.bool false)),.d (.v (.bool false)),.d (.v (.bool false)),.d (.v (.bool false)),.d (.v (.bool false)),.d (.v (.bool false)),.d (.v (.bool false)),.d (.v (.bool false)),.d (.v (.bool false)),.d (.v (.bool false)),.d (.v (.bool false)),.d (.v (.bool false)),.d (.v (.bool false)),.d (.v (.bool false)),.d (.v (.bool false)),.d (.v (.bool false)),.d (.v (.bool false)),.d (.v (.bool false)),.d (.v (.bool false)),.d (.v (.bool false)),.d (.v (.bool false)),.d (.v (.bool false)),.d (.v (.bool false)),.d (.v (.bool false)),.d (.v (.bool false)),.d (.v (.bool false)),.d (.v (.bool false)),.d (.v (.bool false)),.d (.v (.bool false)),.d (.v (.bool false)),.d (.v (.bool false)),.d (.v (.bool false)),.d (.v (.bool false)),.d (.v (.bool false)),.d (.v (.bool false)),.d (.v (.bool false)),.d (.v (.bool false)),.d (.v (.bool false)),.d (.v (.bool false)),.d (.v (.bool false)),.d (.v (.bool false)),.d (.v (.bool false)),.d (.v (.bool false)),.d (.v (.bool false)),.d (.v (.bool false)),.d (.v (.bool false)),.d (.v (.bool false)),.d (.v (.bool false)),.d (.v (.bool false)),.d (.v (.bool false)),.d (.v (.bool false)),.d (.v (.bool false)),.d (.v (.bool false)),.d (.v (.bool false)),.d (.v (.bool false)),.d (.v (.bool false)),.d (.v (.bool false)),.d (.v (.bool false)),.d (.v (.bool false)),.d (.v (.bool false)),.d (.v (.bool false)),.d (.v (.bool false)),.d (.v (.bool false)),.d (.v (.bool false)),.d (.v (.bool false)),.d (.v (.bool false)),.d (.v (.bool false)),.d (.v (.bool false)),.d (.v (.bool false)),.d (.v (.bool false)),.d (.v (.bool false)),.d (.v (.bool false)),.d (.v (.bool false)),.d (.v (.bool false)),.d (.v (.bool false)),.d (.v (.bool false)),.d (.v (.bool false)),.d (.v (.bool false)),.d (.v (.bool false)),.d (.v (.bool false)),.d (.v (.bool false)),.d (.v (.bool false)),.d (.v (.bool false)),.d (.v (.bool false)),.d (.v (.bool false)),.d (.v (.bool false)),.d (.v (.bool false)),.d (.v (.bool false)),.d (.v (.bool false)),.d (.v (.bool false)),.d (.v (.bool false)),.d (.v (.bool false)),.d (.v (.bool false)),.d (.v (.bool false)),.d (.v (.bool false)),.d (.v (.bool false)),.d (.v (.bool false)),.d (.v (.bool false)),.d (.v (.bool false)),.d (.v (.bool false)),.d (.v (.bool false)),.d (.v (.bool false)),.d (.v (.bool false)),.d (.v (.bool false)),.d (.v (.bool false)),.d (.v (.bool false)),.d (.v (.bool false)),.d (.v (.bool false)),.d (.v (.bool false)),.d (.v (.bool false)),.d (.v (.bool false)),.d (.v (.bool false)),.d (.v (.bool false)),.d (.v (.bool false)),.d (.v (.bool false)),.d (.v (.bool false)),.d (.v (.bool false)),.d (.v (.bool false)),.d (.v (.bool false)),.d (.v (.bool false)),.d (.v (.bool false)),.d (.v (.bool false)),.d (.v (.bool false)),.d (.v (.bool false)),.d (.v (.bool false)),.d (.v (.bool false)),.d (.v (.bool false)),.d (.v (.bool false)),.d (.v (.bool false)),.d (.v (.bool false)),.d (.v (.bool false)),.d (.v (.bool false)),.d (.v (.bool false)),.d (.v (.bool false)),.d (.v (.bool false)),.d (.v (.bool false)),.d (.v (.bool false)),.d (.v (.bool false)),.d (.v (.bool false)),.d (.v (.bool false)),.d (.v (.bool false)),.d (.v (.bool false)),.d (.v (.bool false)),.d (.v (.bool false)),.d (.v (.bool false)),.d (.v (.bool false)),.d (.v (.bool false)),.d (.v (.bool false)),.d (.v (.bool false)),.d (.v (.bool false)),.d (.v (.bool false)),.d (.v (.bool false)),.d (.v (.bool false)),.d (.v (.bool false)),.d (.v (.bool false))]):=by kernel_rfl
theorem sz160 : szOf Tryd.prog 160 = some 256:=by kernel_rfl
theorem ag160 : aggB Tryd.prog 160 = some true:=by kernel_rfl
theorem zr160 : zeroS Tryd.prog 160 = some (.agg [.d (.v (.bool false)),.d (.v (.bool false)),.d (.v (.bool false)),.d (.v (.bool false)),.d (.v (.bool false)),.d (.v (.bool false)),.d (.v (.bool false)),.d (.v (.bool false)),.d (.v (.bool false)),.d (.v (.bool false)),.d (.v (.bool false)),.d (.v (.bool false)),.d (.v (.bool false)),.d (.v (.bool false)),.d (.v (.bool false)),.d (.v (.bool false)),.d (.v (.bool false)),.d (.v (.bool false)),.d (.v (.bool false)),.d (.v (.bool false)),.d (.v (.bool false)),.d (.v (.bool false)),.d (.v (.bool false)),.d (.v (.bool false)),.d (.v (.bool false)),.d (.v (.bool false)),.d (.v (.bool false)),.d (.v (.bool false)),.d (.v (.bool false)),.d (.v (.bool false)),.d (.v (.bool false)),.d (.v (.bool false)),.d (.v (.bool false)),.d (.v (.bool false)),.d (.v (.bool false)),.d (.v (.bool false)),.d (.v (.bool false)),.d (.v (.bool false)),.d (.v (.bool false)),.d (.v (.bool false)),.d (.v (.bool false)),.d (.v (.bool false)),.d (.v (.bool false)),.d (.v (.bool false)),.d (.v (.bool false)),.d (.v (.bool false)),.d (.v (.bool false)),.d (.v (.bool false)),.d (.v (.bool false)),.d (.v (.bool false)),.d (.v (.bool false)),.d (.v (.bool false)),.d (.v (.bool false)),.d (.v (.bool false)),.d (.v (.bool false)),.d (.v (.bool false)),.d (.v (.bool false)),.d (.v (.bool false)),.d (.v (.bool false)),.d (.v (.bool false)),.d (.v (.bool false)),.d (.v (.bool false)),.d (.v (.bool false)),.d (.v (.bool false)),.d (.v (.bool false)),.d (.v (.bool false)),.d (.v (.bool false)),.d (.v (.bool false)),.d (.v (.bool false)),.d (.v (.bool false)),.d (.v (.bool false)),.d (.v (.bool false)),.d (.v (.bool false)),.d (.v (.bool false)),.d (.v (.bool false)),.d (.v (.bool false)),.d (.v (.bool false)),.d (.v (.bool false)),.d (.v (.bool false)),.d (.v (.bool false)),.d (.v (.bool false)),.d (.v (.bool false)),.d (.v (.bool false)),.d (.v (.bool false)),.d (.v (.bool false)),.d (.v (.bool false)),.d (.v (.bool false)),.d (.v (.bool false)),.d (.v (.bool false)),.d (.v (.bool false)),.d (.v (.bool false)),.d (.v (.bool false)),.d (.v (.bool false)),.d (.v (.bool false)),.d (.v (.bool false)),.d (.v (.bool false)),.d (.v (.bool false)),.d (.v (.bool false)),.d (.v (.bool false)),.d (.v (.bool false)),.d (.v (.bool false)),.d (.v (.bool false)),.d (.v (.bool false)),.d (.v (.bool false)),.d (.v (.bool false)),.d (.v (.bool false)),.d (.v (.bool false)),.d (.v (.bool false)),.d (.v (.bool false)),.d (.v (.bool false)),.d (.v (.bool false)),.d (.v (.bool false)),.d (.v (.bool false)),.d (.v (.bool false)),.d (.v (.bool false)),.d (.v (.bool false)),.d (.v (.bool false)),.d (.v (.bool false)),.d (.v (.bool false)),.d (.v (.bool false)),.d (.v (.bool false)),.d (.v (.bool false)),.d (.v (.bool false)),.d (.v (.bool false)),.d (.v (.bool false)),.d (.v (.bool false)),.d (.v (.bool false)),.d (.v (.bool false)),.d (.v (.bool false)),.d (.v (.bool false)),.d (.v (.bool false)),.d (.v (.bool false)),.d (.v (.bool false)),.d (.v (.bool false)),.d (.v (.bool false)),.d (.v (.bool false)),.d (.v (.bool false)),.d (.v (.bool false)),.d (.v (.bool false)),.d (.v (.bool false)),.d (.v (.bool false)),.d (.v (.bool false)),.d (.v (.bool false)),.d (.v (.bool false)),.d (.v (.bool false)),.d (.v (.bool false)),.d (.v (.bool false)),.d (.v (.bool false)),.d (.v (.bool false)),.d (.v (.bool false)),.d (.v (.bool false)),.d (.v (.bool false)),.d (.v (.bool false)),.d (.v (.bool false)),.d (.v (.bool false)),.d (.v (.bool false)),.d (.v (.bool false)),.d (.v (.bool false)),.d (.v (.bool false)),.d (.v (.bool false)),.d (.v (.bool false)),.d (.v (.bool false)),.d (.v (.bool false)),.d (.v (.bool false)),.d (.v (.bool false)),.d (.v (.bool false)),.d (.v (.bool false)),.d (.v (.bool false)),.d (.v (.bool false)),.d (.v (.bool false)),.d (.v (.bool false)),.d (.v (.bool false)),.d (.v (.bool false)),.d (.v (.bool false)),.d (.v (.bool false)),.d (.v (.bool false)),.d (.v (.bool false)),.d (.v (.bool false)),.d (.v (.bool false)),.d (.v (.bool false)),.d (.v (.bool false)),.d (.v (.bool false)),.d (.v (.bool false)),.d (.v (.bool false)),.d (.v (.bool false)),.d (.v (.bool false)),.d (.v (.bool false)),.d (.v (.bool false)),.d (.v (.bool false)),.d (.v (.bool false)),.d (.v (.bool false)),.d (.v (.bool false)),.d (.v (.bool false)),.d (.v (.bool false)),.d (.v (.bool false)),.d (.v (.bool false)),.d (.v (.bool false)),.d (.v (.bool false)),.d (.v (.bool false)),.d (.v (.bool false)),.d (.v (.bool false)),.d (.v (.bool false)),.d (.v (.bool false)),.d (.v (.bool false)),.d (.v (.bool false)),.d (.v (.bool false)),.d (.v (.bool false)),.d (.v (.bool false)),.d (.v (.bool false)),.d (.v (.bool false)),.d (.v (.bool false)),.d (.v (.bool false)),.d (.v (.bool false)),.d (.v (.bool false)),.d (.v (.bool false)),.d (.v (.bool false)),.d (.v (.bool false)),.d (.v (.bool false)),.d (.v (.bool false)),.d (.v (.bool false)),.d (.v (.bool false)),.d (.v (.bool false)),.d (.v (.bool false)),.d (.v (.bool false)),.d (.v (.bool false)),.d (.v (.bool false)),.d (.v (.bool false)),.d (.v (.bool false)),.d (.v (.bool false)),.d (.v (.bool false)),.d (.v (.bool false)),.d (.v (.bool false)),.d (.v (.bool false)),.d (.v (.bool false)),.d (.v (.bool false)),.d (.v (.bool false)),.d (.v (.bool false)),.d (.v (.bool false)),.d (.v (.bool false)),.d (.v (.bool false)),.d (.v (.bool false)),.d (.v (.bool false)),.d (.v (.bool false)),.d (.v (.bool false)),.d (.v (.bool false)),.d (.v (.bool false)),.d (.v (.bool false)),.d (.v (.bool false)),.d (.v (.bool false)),.d (.v (.bool false)),.d (.v (.bool false)),.d (.v (.bool false)),.d (.v (.bool false)),.d (.v (.bool false)),.d (.v (.bool false)),.d (.v (.bool false))]):=by kernel_rfl
theorem sz161 : szOf Tryd.prog 161 = some 1:=by kernel_rfl
theorem ag161 : aggB Tryd.prog 161 = some false:=by kernel_rfl
-- no zero of 161: tuple tuple 2 agg 256 bool 0 bool 0
theorem sz164 : szOf Tryd.prog 164 = some 1:=by kernel_rfl
theorem ag164 : aggB Tryd.prog 164 = some false:=by kernel_rfl
theorem zr164 : zeroS Tryd.prog 164 = some (.d (.v (.pointer none))):=by kernel_rfl
theorem sz174 : szOf Tryd.prog 174 = some 1:=by kernel_rfl
theorem ag174 : aggB Tryd.prog 174 = some false:=by kernel_rfl
theorem zr174 : zeroS Tryd.prog 174 = some (.d (.v (.pointer none))):=by kernel_rfl
theorem sz176 : szOf Tryd.prog 176 = some 2:=by kernel_rfl
theorem ag176 : aggB Tryd.prog 176 = some true:=by kernel_rfl
theorem zr176 : zeroS Tryd.prog 176 = some (.agg [.d (.v (.string ⟨#[]⟩)),.d (.v (.int .i64 0))]):=by kernel_rfl
theorem pl176 : plcs Tryd.prog 176 = some [(0,1),(1,1)]:=by kernel_rfl
theorem fl176_0 : fldOf Tryd.prog 176 0 = some (0,1):=by kernel_rfl
theorem pt176_0 : partOf Tryd.prog 176 0 = some (0,1):=by kernel_rfl
theorem fl176_1 : fldOf Tryd.prog 176 1 = some (1,1):=by kernel_rfl
theorem pt176_1 : partOf Tryd.prog 176 1 = some (1,1):=by kernel_rfl
theorem sz177 : szOf Tryd.prog 177 = some 2:=by kernel_rfl
theorem ag177 : aggB Tryd.prog 177 = some true:=by kernel_rfl
theorem zr177 : zeroS Tryd.prog 177 = some (.agg [.d (.v (.int .i64 0)),.d (.v (.int .i64 0))]):=by kernel_rfl
theorem pl177 : plcs Tryd.prog 177 = some [(0,2)]:=by kernel_rfl
theorem fl177_0 : fldOf Tryd.prog 177 0 = some (0,2):=by kernel_rfl
theorem pt177_0 : partOf Tryd.prog 177 0 = some (0,2):=by kernel_rfl
open And renaming intro → ai
theorem TAS : tyOf (ai sz2 (ai ag2 (ai zr2 (ai un2 (ai sz3 (ai ag3 (ai zr3 (ai un3 (ai sz4 (ai ag4 (ai zr4 (ai sz5 (ai ag5 (ai zr5 (ai un5 (ai sz9 (ai ag9 (ai zr9 (ai un9 (ai sz20 (ai ag20 (ai zr20 (ai sz22 (ai ag22 (ai zr22 (ai el22 (ai un22 (ai by22 (ai ez22 (ai sz23 (ai ag23 (ai zr23 (ai el23 (ai un23 (ai by23 (ai ez23 (ai sz25 (ai ag25 (ai zr25 (ai pl25 (ai fl25_0 (ai pt25_0 (ai fl25_1 (ai pt25_1 (ai fl25_2 (ai pt25_2 (ai fl25_3 (ai pt25_3 (ai fl25_4 (ai pt25_4 (ai fl25_5 (ai pt25_5 (ai fl25_6 (ai pt25_6 (ai sz26 (ai ag26 (ai zr26 (ai un26 (ai sz27 (ai ag27 (ai sz30 (ai ag30 (ai zr30 (ai pl30 (ai fl30_0 (ai pt30_0 (ai fl30_1 (ai pt30_1 (ai sz35 (ai ag35 (ai sz38 (ai ag38 (ai sz51 (ai ag51 (ai zr51 (ai el51 (ai un51 (ai by51 (ai ez51 (ai sz52 (ai ag52 (ai zr52 (ai pl52 (ai fl52_0 (ai pt52_0 (ai fl52_1 (ai pt52_1 (ai fl52_2 (ai pt52_2 (ai fl52_3 (ai pt52_3 (ai fl52_4 (ai pt52_4 (ai sz53 (ai ag53 (ai zr53 (ai pl53 (ai fl53_0 (ai pt53_0 (ai fl53_1 (ai pt53_1 (ai fl53_2 (ai pt53_2 (ai fl53_3 (ai pt53_3 (ai fl53_4 (ai pt53_4 (ai sz56 (ai ag56 (ai sz80 (ai ag80 (ai zr80 (ai un80 (ai mo80 (ai sz93 (ai ag93 (ai zr93 (ai el93 (ai un93 (ai by93 (ai ez93 (ai sz97 (ai ag97 (ai zr97 (ai un97 (ai sz100 (ai ag100 (ai zr100 (ai sz102 (ai ag102 (ai zr102 (ai pl102 (ai fl102_0 (ai pt102_0 (ai fl102_1 (ai pt102_1 (ai sz103 (ai ag103 (ai zr103 (ai un103 (ai sz115 (ai ag115 (ai zr115 (ai el115 (ai un115 (ai by115 (ai ez115 (ai sz129 (ai ag129 (ai sz148 (ai ag148 (ai sz151 (ai ag151 (ai zr151 (ai un151 (ai sz159 (ai ag159 (ai zr159 (ai sz160 (ai ag160 (ai zr160 (ai sz161 (ai ag161 (ai sz164 (ai ag164 (ai zr164 (ai sz174 (ai ag174 (ai zr174 (ai sz176 (ai ag176 (ai zr176 (ai pl176 (ai fl176_0 (ai pt176_0 (ai fl176_1 (ai pt176_1 (ai sz177 (ai ag177 (ai zr177 (ai pl177 (ai fl177_0 pt177_0)))))))))))))))))))))))))))))))))))))))))))))))))))))))))))))))))))))))))))))))))))))))))))))))))))))))))))))))))))))))))))))))))))))))))))))))))))))))))))))))))))))))))))))))))))))) := tyOk _
theorem WA : tyOf (And.intro UN (And.intro LM (TAS))):=tyOk _
end Go.Proofs.YtdcplkefmpjppaaDoor
