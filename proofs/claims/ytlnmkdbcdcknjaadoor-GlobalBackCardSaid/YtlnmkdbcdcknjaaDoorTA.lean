/- Facts on the types that the walks meet: sizes, zeros, fields, elements. -/
import Derived.Test.YtlnmkdbcdcknjaaDoorSwB
import Derived.Test.YtlnmkdbcdcknjaaDoorSwD
import Derived.Test.YtlnmkdbcdcknjaaDoorProg
set_option linter.unusedVariables false
namespace Go.Proofs.YtlnmkdbcdcknjaaDoor
open Go.Sw
set_option maxRecDepth 100000

theorem sz2 : szOf Tryd.prog 2 = some 1:=by kernel_rfl
theorem ag2 : aggB Tryd.prog 2 = some false:=by kernel_rfl
theorem zr2 : zeroS Tryd.prog 2 = some (.d (.v (.int .i64 0))):=by kernel_rfl
theorem un2 : Tryd.prog.underlying 2 = some (.int .i64):=by kernel_rfl
theorem sz3 : szOf Tryd.prog 3 = some 1:=by kernel_rfl
theorem ag3 : aggB Tryd.prog 3 = some false:=by kernel_rfl
theorem zr3 : zeroS Tryd.prog 3 = some (.d (.v (.int .i64 0))):=by kernel_rfl
theorem un3 : Tryd.prog.underlying 3 = some (.int .i64):=by kernel_rfl
theorem sz4 : szOf Tryd.prog 4 = some 1:=by kernel_rfl
theorem ag4 : aggB Tryd.prog 4 = some false:=by kernel_rfl
theorem zr4 : zeroS Tryd.prog 4 = some (.d (.v (.bool false))):=by kernel_rfl
theorem sz5 : szOf Tryd.prog 5 = some 1:=by kernel_rfl
theorem ag5 : aggB Tryd.prog 5 = some false:=by kernel_rfl
theorem zr5 : zeroS Tryd.prog 5 = some (.d (.v (.int .u8 0))):=by kernel_rfl
theorem un5 : Tryd.prog.underlying 5 = some (.int .u8):=by kernel_rfl
theorem sz9 : szOf Tryd.prog 9 = some 1:=by kernel_rfl
theorem ag9 : aggB Tryd.prog 9 = some false:=by kernel_rfl
theorem zr9 : zeroS Tryd.prog 9 = some (.d (.v (.string ⟨#[]⟩))):=by kernel_rfl
theorem un9 : Tryd.prog.underlying 9 = some .string:=by kernel_rfl
theorem sz20 : szOf Tryd.prog 20 = some 1:=by kernel_rfl
theorem ag20 : aggB Tryd.prog 20 = some false:=by kernel_rfl
theorem zr20 : zeroS Tryd.prog 20 = some (.d (.v .nilIface)):=by kernel_rfl
theorem sz22 : szOf Tryd.prog 22 = some 1:=by kernel_rfl
theorem ag22 : aggB Tryd.prog 22 = some false:=by kernel_rfl
theorem zr22 : zeroS Tryd.prog 22 = some (.nil):=by kernel_rfl
theorem el22 : elemSz Tryd.prog 22 = some 1:=by kernel_rfl
theorem un22 : Tryd.prog.underlying 22 = some (.slice 9):=by kernel_rfl
theorem by22 : elemBy Tryd.prog 22 = some 16:=by kernel_rfl
theorem ez22 : elemZ Tryd.prog 22 = true:=by kernel_rfl
theorem sz23 : szOf Tryd.prog 23 = some 1:=by kernel_rfl
theorem ag23 : aggB Tryd.prog 23 = some false:=by kernel_rfl
theorem zr23 : zeroS Tryd.prog 23 = some (.nil):=by kernel_rfl
theorem el23 : elemSz Tryd.prog 23 = some 7:=by kernel_rfl
theorem un23 : Tryd.prog.underlying 23 = some (.slice 25):=by kernel_rfl
theorem by23 : elemBy Tryd.prog 23 = some 112:=by kernel_rfl
theorem ez23 : elemZ Tryd.prog 23 = true:=by kernel_rfl
theorem sz25 : szOf Tryd.prog 25 = some 7:=by kernel_rfl
theorem ag25 : aggB Tryd.prog 25 = some true:=by kernel_rfl
theorem zr25 : zeroS Tryd.prog 25 = some (.agg [.d (.v (.int .i64 0)),.d (.v (.string ⟨#[]⟩)),.d (.v (.string ⟨#[]⟩)),.d (.v (.int .i64 0)),.d (.v (.string ⟨#[]⟩)),.nil,.nil]):=by kernel_rfl
theorem pl25 : plcs Tryd.prog 25 = some [(0,1),(1,1),(2,1),(3,1),(4,1),(5,1),(6,1)]:=by kernel_rfl
theorem fl25_0 : fldOf Tryd.prog 25 0 = some (0,1):=by kernel_rfl
theorem pt25_0 : partOf Tryd.prog 25 0 = some (0,1):=by kernel_rfl
theorem fl25_1 : fldOf Tryd.prog 25 1 = some (1,1):=by kernel_rfl
theorem pt25_1 : partOf Tryd.prog 25 1 = some (1,1):=by kernel_rfl
theorem fl25_2 : fldOf Tryd.prog 25 2 = some (2,1):=by kernel_rfl
theorem pt25_2 : partOf Tryd.prog 25 2 = some (2,1):=by kernel_rfl
theorem fl25_3 : fldOf Tryd.prog 25 3 = some (3,1):=by kernel_rfl
theorem pt25_3 : partOf Tryd.prog 25 3 = some (3,1):=by kernel_rfl
theorem fl25_4 : fldOf Tryd.prog 25 4 = some (4,1):=by kernel_rfl
theorem pt25_4 : partOf Tryd.prog 25 4 = some (4,1):=by kernel_rfl
theorem fl25_5 : fldOf Tryd.prog 25 5 = some (5,1):=by kernel_rfl
theorem pt25_5 : partOf Tryd.prog 25 5 = some (5,1):=by kernel_rfl
theorem fl25_6 : fldOf Tryd.prog 25 6 = some (6,1):=by kernel_rfl
theorem pt25_6 : partOf Tryd.prog 25 6 = some (6,1):=by kernel_rfl
theorem sz26 : szOf Tryd.prog 26 = some 1:=by kernel_rfl
theorem ag26 : aggB Tryd.prog 26 = some false:=by kernel_rfl
theorem zr26 : zeroS Tryd.prog 26 = some (.d (.v (.int .i64 0))):=by kernel_rfl
theorem un26 : Tryd.prog.underlying 26 = some (.int .i64):=by kernel_rfl
theorem sz27 : szOf Tryd.prog 27 = some 1:=by kernel_rfl
theorem ag27 : aggB Tryd.prog 27 = some false:=by kernel_rfl
-- no zero of 27: tuple tuple 2 string x int i64 0 0
theorem sz30 : szOf Tryd.prog 30 = some 2:=by kernel_rfl
theorem ag30 : aggB Tryd.prog 30 = some true:=by kernel_rfl
theorem zr30 : zeroS Tryd.prog 30 = some (.agg [.d (.v (.int .i64 0)),.d (.v (.int .i64 0))]):=by kernel_rfl
theorem pl30 : plcs Tryd.prog 30 = some [(0,1),(1,1)]:=by kernel_rfl
theorem fl30_0 : fldOf Tryd.prog 30 0 = some (0,1):=by kernel_rfl
theorem pt30_0 : partOf Tryd.prog 30 0 = some (0,1):=by kernel_rfl
theorem fl30_1 : fldOf Tryd.prog 30 1 = some (1,1):=by kernel_rfl
theorem pt30_1 : partOf Tryd.prog 30 1 = some (1,1):=by kernel_rfl
theorem sz31 : szOf Tryd.prog 31 = some 1:=by kernel_rfl
theorem ag31 : aggB Tryd.prog 31 = some false:=by kernel_rfl
-- no zero of 31: tuple tuple 2 agg 7 int i64 0 string
theorem sz35 : szOf Tryd.prog 35 = some 1:=by kernel_rfl
theorem ag35 : aggB Tryd.prog 35 = some false:=by kernel_rfl
-- no zero of 35: tuple tuple 2 agg 7 int i64 0 string
theorem sz38 : szOf Tryd.prog 38 = some 1:=by kernel_rfl
theorem ag38 : aggB Tryd.prog 38 = some false:=by kernel_rfl
-- no zero of 38: tuple tuple 2 slice - 0 0 int i64
theorem sz48 : szOf Tryd.prog 48 = some 1:=by kernel_rfl
theorem ag48 : aggB Tryd.prog 48 = some false:=by kernel_rfl
theorem zr48 : zeroS Tryd.prog 48 = some (.d (.v (.pointer none))):=by kernel_rfl
theorem sz50 : szOf Tryd.prog 50 = some 2:=by kernel_rfl
theorem ag50 : aggB Tryd.prog 50 = some true:=by kernel_rfl
theorem zr50 : zeroS Tryd.prog 50 = some (.agg [.d (.v (.string ⟨#[]⟩)),.d (.v (.int .i64 0))]):=by kernel_rfl
theorem pl50 : plcs Tryd.prog 50 = some [(0,1),(1,1)]:=by kernel_rfl
theorem fl50_0 : fldOf Tryd.prog 50 0 = some (0,1):=by kernel_rfl
theorem pt50_0 : partOf Tryd.prog 50 0 = some (0,1):=by kernel_rfl
theorem fl50_1 : fldOf Tryd.prog 50 1 = some (1,1):=by kernel_rfl
theorem pt50_1 : partOf Tryd.prog 50 1 = some (1,1):=by kernel_rfl
theorem sz52 : szOf Tryd.prog 52 = some 2:=by kernel_rfl
theorem ag52 : aggB Tryd.prog 52 = some true:=by kernel_rfl
theorem zr52 : zeroS Tryd.prog 52 = some (.agg [.d (.v (.int .i64 0)),.d (.v (.int .i64 0))]):=by kernel_rfl
theorem pl52 : plcs Tryd.prog 52 = some [(0,2)]:=by kernel_rfl
theorem fl52_0 : fldOf Tryd.prog 52 0 = some (0,2):=by kernel_rfl
theorem pt52_0 : partOf Tryd.prog 52 0 = some (0,2):=by kernel_rfl
theorem sz55 : szOf Tryd.prog 55 = some 1:=by kernel_rfl
theorem ag55 : aggB Tryd.prog 55 = some false:=by kernel_rfl
theorem zr55 : zeroS Tryd.prog 55 = some (.d (.v (.map none))):=by kernel_rfl
theorem un55 : Tryd.prog.underlying 55 = some (.map 62 64):=by kernel_rfl
theorem mo55 : mapOf Tryd.prog 55 = some (62,(.map none)):=by kernel_rfl
theorem sz56 : szOf Tryd.prog 56 = some 1:=by kernel_rfl
theorem ag56 : aggB Tryd.prog 56 = some false:=by kernel_rfl
theorem zr56 : zeroS Tryd.prog 56 = some (.nil):=by kernel_rfl
theorem el56 : elemSz Tryd.prog 56 = some 8:=by kernel_rfl
theorem un56 : Tryd.prog.underlying 56 = some (.slice 89):=by kernel_rfl
theorem by56 : elemBy Tryd.prog 56 = some 136:=by kernel_rfl
theorem ez56 : elemZ Tryd.prog 56 = true:=by kernel_rfl
theorem sz57 : szOf Tryd.prog 57 = some 1:=by kernel_rfl
theorem ag57 : aggB Tryd.prog 57 = some false:=by kernel_rfl
theorem zr57 : zeroS Tryd.prog 57 = some (.nil):=by kernel_rfl
theorem el57 : elemSz Tryd.prog 57 = some 8:=by kernel_rfl
theorem un57 : Tryd.prog.underlying 57 = some (.slice 89):=by kernel_rfl
theorem by57 : elemBy Tryd.prog 57 = some 136:=by kernel_rfl
theorem ez57 : elemZ Tryd.prog 57 = true:=by kernel_rfl
theorem sz59 : szOf Tryd.prog 59 = some 2:=by kernel_rfl
theorem ag59 : aggB Tryd.prog 59 = some true:=by kernel_rfl
theorem zr59 : zeroS Tryd.prog 59 = some (.agg [.nil,.d (.v (.map none))]):=by kernel_rfl
theorem pl59 : plcs Tryd.prog 59 = some [(0,1),(1,1)]:=by kernel_rfl
theorem fl59_0 : fldOf Tryd.prog 59 0 = some (0,1):=by kernel_rfl
theorem pt59_0 : partOf Tryd.prog 59 0 = some (0,1):=by kernel_rfl
theorem fl59_1 : fldOf Tryd.prog 59 1 = some (1,1):=by kernel_rfl
theorem pt59_1 : partOf Tryd.prog 59 1 = some (1,1):=by kernel_rfl
theorem sz62 : szOf Tryd.prog 62 = some 2:=by kernel_rfl
theorem ag62 : aggB Tryd.prog 62 = some true:=by kernel_rfl
theorem zr62 : zeroS Tryd.prog 62 = some (.agg [.d (.v (.int .i64 0)),.d (.v (.int .i64 0))]):=by kernel_rfl
theorem pl62 : plcs Tryd.prog 62 = some [(0,1),(1,1)]:=by kernel_rfl
theorem fl62_0 : fldOf Tryd.prog 62 0 = some (0,1):=by kernel_rfl
theorem pt62_0 : partOf Tryd.prog 62 0 = some (0,1):=by kernel_rfl
theorem fl62_1 : fldOf Tryd.prog 62 1 = some (1,1):=by kernel_rfl
theorem pt62_1 : partOf Tryd.prog 62 1 = some (1,1):=by kernel_rfl
theorem sz63 : szOf Tryd.prog 63 = some 1:=by kernel_rfl
theorem ag63 : aggB Tryd.prog 63 = some false:=by kernel_rfl
theorem zr63 : zeroS Tryd.prog 63 = some (.nil):=by kernel_rfl
theorem el63 : elemSz Tryd.prog 63 = some 2:=by kernel_rfl
theorem un63 : Tryd.prog.underlying 63 = some (.slice 62):=by kernel_rfl
theorem by63 : elemBy Tryd.prog 63 = some 16:=by kernel_rfl
theorem ez63 : elemZ Tryd.prog 63 = true:=by kernel_rfl
theorem sz64 : szOf Tryd.prog 64 = some 1:=by kernel_rfl
theorem ag64 : aggB Tryd.prog 64 = some false:=by kernel_rfl
theorem zr64 : zeroS Tryd.prog 64 = some (.d (.v (.map none))):=by kernel_rfl
theorem un64 : Tryd.prog.underlying 64 = some (.map 9 3):=by kernel_rfl
theorem mo64 : mapOf Tryd.prog 64 = some (9,(.int .i64 0)):=by kernel_rfl
theorem sz66 : szOf Tryd.prog 66 = some 1:=by kernel_rfl
theorem ag66 : aggB Tryd.prog 66 = some false:=by kernel_rfl
-- no zero of 66: tuple tuple 2 map - bool 0 0 0
theorem sz82 : szOf Tryd.prog 82 = some 1:=by kernel_rfl
theorem ag82 : aggB Tryd.prog 82 = some false:=by kernel_rfl
theorem zr82 : zeroS Tryd.prog 82 = some (.d (.v (.pointer none))):=by kernel_rfl
theorem sz85 : szOf Tryd.prog 85 = some 1:=by kernel_rfl
theorem ag85 : aggB Tryd.prog 85 = some false:=by kernel_rfl
theorem zr85 : zeroS Tryd.prog 85 = some (.d (.v (.pointer none))):=by kernel_rfl
theorem sz86 : szOf Tryd.prog 86 = some 1:=by kernel_rfl
theorem ag86 : aggB Tryd.prog 86 = some false:=by kernel_rfl
theorem zr86 : zeroS Tryd.prog 86 = some (.nil):=by kernel_rfl
theorem el86 : elemSz Tryd.prog 86 = some 1:=by kernel_rfl
theorem un86 : Tryd.prog.underlying 86 = some (.slice 3):=by kernel_rfl
theorem by86 : elemBy Tryd.prog 86 = some 8:=by kernel_rfl
theorem ez86 : elemZ Tryd.prog 86 = true:=by kernel_rfl
theorem sz89 : szOf Tryd.prog 89 = some 8:=by kernel_rfl
theorem ag89 : aggB Tryd.prog 89 = some true:=by kernel_rfl
theorem zr89 : zeroS Tryd.prog 89 = some (.agg [.d (.v (.int .i64 0)),.d (.v (.string ⟨#[]⟩)),.d (.v (.string ⟨#[]⟩)),.d (.v (.int .i64 0)),.d (.v (.string ⟨#[]⟩)),.nil,.nil,.nil]):=by kernel_rfl
theorem pl89 : plcs Tryd.prog 89 = some [(0,7),(7,1)]:=by kernel_rfl
theorem fl89_0 : fldOf Tryd.prog 89 0 = some (0,7):=by kernel_rfl
theorem pt89_0 : partOf Tryd.prog 89 0 = some (0,7):=by kernel_rfl
theorem fl89_1 : fldOf Tryd.prog 89 1 = some (7,1):=by kernel_rfl
theorem pt89_1 : partOf Tryd.prog 89 1 = some (7,1):=by kernel_rfl
theorem sz94 : szOf Tryd.prog 94 = some 1:=by kernel_rfl
theorem ag94 : aggB Tryd.prog 94 = some false:=by kernel_rfl
theorem zr94 : zeroS Tryd.prog 94 = some (.nil):=by kernel_rfl
theorem el94 : elemSz Tryd.prog 94 = some 5:=by kernel_rfl
theorem un94 : Tryd.prog.underlying 94 = some (.slice 96):=by kernel_rfl
theorem by94 : elemBy Tryd.prog 94 = some 80:=by kernel_rfl
theorem ez94 : elemZ Tryd.prog 94 = true:=by kernel_rfl
theorem sz95 : szOf Tryd.prog 95 = some 5:=by kernel_rfl
theorem ag95 : aggB Tryd.prog 95 = some true:=by kernel_rfl
theorem zr95 : zeroS Tryd.prog 95 = some (.agg [.d (.v (.int .i64 0)),.d (.v (.int .i64 0)),.d (.v (.string ⟨#[]⟩)),.nil,.nil]):=by kernel_rfl
theorem pl95 : plcs Tryd.prog 95 = some [(0,1),(1,1),(2,1),(3,1),(4,1)]:=by kernel_rfl
theorem fl95_0 : fldOf Tryd.prog 95 0 = some (0,1):=by kernel_rfl
theorem pt95_0 : partOf Tryd.prog 95 0 = some (0,1):=by kernel_rfl
theorem fl95_1 : fldOf Tryd.prog 95 1 = some (1,1):=by kernel_rfl
theorem pt95_1 : partOf Tryd.prog 95 1 = some (1,1):=by kernel_rfl
theorem fl95_2 : fldOf Tryd.prog 95 2 = some (2,1):=by kernel_rfl
theorem pt95_2 : partOf Tryd.prog 95 2 = some (2,1):=by kernel_rfl
theorem fl95_3 : fldOf Tryd.prog 95 3 = some (3,1):=by kernel_rfl
theorem pt95_3 : partOf Tryd.prog 95 3 = some (3,1):=by kernel_rfl
theorem fl95_4 : fldOf Tryd.prog 95 4 = some (4,1):=by kernel_rfl
theorem pt95_4 : partOf Tryd.prog 95 4 = some (4,1):=by kernel_rfl
theorem sz96 : szOf Tryd.prog 96 = some 5:=by kernel_rfl
theorem ag96 : aggB Tryd.prog 96 = some true:=by kernel_rfl
theorem zr96 : zeroS Tryd.prog 96 = some (.agg [.d (.v (.int .i64 0)),.d (.v (.int .i64 0)),.d (.v (.string ⟨#[]⟩)),.nil,.nil]):=by kernel_rfl
theorem pl96 : plcs Tryd.prog 96 = some [(0,1),(1,1),(2,1),(3,1),(4,1)]:=by kernel_rfl
theorem fl96_0 : fldOf Tryd.prog 96 0 = some (0,1):=by kernel_rfl
theorem pt96_0 : partOf Tryd.prog 96 0 = some (0,1):=by kernel_rfl
theorem fl96_1 : fldOf Tryd.prog 96 1 = some (1,1):=by kernel_rfl
theorem pt96_1 : partOf Tryd.prog 96 1 = some (1,1):=by kernel_rfl
theorem fl96_2 : fldOf Tryd.prog 96 2 = some (2,1):=by kernel_rfl
theorem pt96_2 : partOf Tryd.prog 96 2 = some (2,1):=by kernel_rfl
theorem fl96_3 : fldOf Tryd.prog 96 3 = some (3,1):=by kernel_rfl
theorem pt96_3 : partOf Tryd.prog 96 3 = some (3,1):=by kernel_rfl
theorem fl96_4 : fldOf Tryd.prog 96 4 = some (4,1):=by kernel_rfl
theorem pt96_4 : partOf Tryd.prog 96 4 = some (4,1):=by kernel_rfl
theorem sz99 : szOf Tryd.prog 99 = some 1:=by kernel_rfl
theorem ag99 : aggB Tryd.prog 99 = some false:=by kernel_rfl
theorem zr99 : zeroS Tryd.prog 99 = some (.nil):=by kernel_rfl
theorem el99 : elemSz Tryd.prog 99 = some 1:=by kernel_rfl
theorem un99 : Tryd.prog.underlying 99 = some (.slice 5):=by kernel_rfl
theorem by99 : elemBy Tryd.prog 99 = some 1:=by kernel_rfl
theorem ez99 : elemZ Tryd.prog 99 = true:=by kernel_rfl
theorem sz116 : szOf Tryd.prog 116 = some 1:=by kernel_rfl
theorem ag116 : aggB Tryd.prog 116 = some false:=by kernel_rfl
-- no zero of 116: tuple tuple 2 int i64 0 bool 0 0
theorem sz119 : szOf Tryd.prog 119 = some 1:=by kernel_rfl
theorem ag119 : aggB Tryd.prog 119 = some false:=by kernel_rfl
theorem zr119 : zeroS Tryd.prog 119 = some (.d (.v (.int .u32 0))):=by kernel_rfl
theorem un119 : Tryd.prog.underlying 119 = some (.int .u32):=by kernel_rfl
theorem sz121 : szOf Tryd.prog 121 = some 1:=by kernel_rfl
theorem ag121 : aggB Tryd.prog 121 = some false:=by kernel_rfl
theorem zr121 : zeroS Tryd.prog 121 = some (.d (.v (.int .u64 0))):=by kernel_rfl
theorem un121 : Tryd.prog.underlying 121 = some (.int .u64):=by kernel_rfl
theorem sz125 : szOf Tryd.prog 125 = some 256:=by kernel_rfl
theorem ag125 : aggB Tryd.prog 125 = some true:=by kernel_rfl
theorem zr125 : zeroS Tryd.prog 125 = some (.agg [.d (.v (.bool false)),.d (.v (.bool false)),.d (.v (.bool false)),.d (.v (.bool false)),.d (.v (.bool false)),.d (.v (.bool false)),.d (.v (.bool false)),.d (.v (.bool false)),.d (.v (.bool false)),.d (.v (.bool false)),.d (.v (.bool false)),.d (.v (.bool false)),.d (.v (.bool false)),.d (.v (.bool false)),.d (.v (.bool false)),.d (.v (.bool false)),.d (.v (.bool false)),.d (.v (.bool false)),.d (.v (.bool false)),.d (.v (.bool false)),.d (.v (.bool false)),.d (.v (.bool false)),.d (.v (.bool false)),.d (.v (.bool false)),.d (.v (.bool false)),.d (.v (.bool false)),.d (.v (.bool false)),.d (.v (.bool false)),.d (.v (.bool false)),.d (.v (.bool false)),.d (.v (.bool false)),.d (.v (.bool false)),.d (.v (.bool false)),.d (.v (.bool false)),.d (.v (.bool false)),.d (.v (.bool false)),.d (.v (.bool false)),.d (.v (.bool false)),.d (.v (.bool false)),.d (.v (.bool false)),.d (.v (.bool false)),.d (.v (.bool false)),.d (.v (.bool false)),.d (.v (.bool false)),.d (.v (.bool false)),.d (.v (.bool false)),.d (.v (.bool false)),.d (.v (.bool false)),.d (.v (.bool false)),.d (.v (.bool false)),.d (.v (.bool false)),.d (.v (.bool false)),.d (.v (.bool false)),.d (.v (.bool false)),.d (.v (.bool false)),.d (.v (.bool false)),.d (.v (.bool false)),.d (.v (.bool false)),.d (.v (.bool false)),.d (.v (.bool false)),.d (.v (.bool false)),.d (.v (.bool false)),.d (.v (.bool false)),.d (.v (.bool false)),.d (.v (.bool false)),.d (.v (.bool false)),.d (.v (.bool false)),.d (.v (.bool false)),.d (.v (.bool false)),.d (.v (.bool false)),.d (.v (.bool false)),.d (.v (.bool false)),.d (.v (.bool false)),.d (.v (.bool false)),.d (.v (.bool false)),.d (.v (.bool false)),.d (.v (.bool false)),.d (.v (.bool false)),.d (.v (.bool false)),.d (.v (.bool false)),.d (.v (.bool false)),.d (.v (.bool false)),.d (.v (.bool false)),.d (.v (.bool false)),.d (.v (.bool false)),.d (.v (.bool false)),.d (.v (.bool false)),.d (.v (.bool false)),.d (.v (.bool false)),.d (.v (.bool false)),.d (.v (.bool false)),.d (.v (.bool false)),.d (.v (.bool false)),.d (.v (.bool false)),.d (.v (.bool false)),.d (.v (.bool false)),.d (.v (.bool false)),.d (.v (.bool false)),.d (.v (.bool false)),.d (.v (.bool false)),.d (.v (.bool false)),.d (.v (.bool false)),.d (.v (.bool false)),.d (.v (.bool false)),.d (.v (.bool false)),.d (.v (.bool false)),.d (.v (.bool false)),.d (.v (.bool false)),.d (.v (.bool false)),.d (.v (.bool false)),.d (.v (.bool false)),.d (.v (.bool false)),.d (.v (.bool false)),.d (.v (.bool false)),.d (.v (.bool false)),.d (.v (.bool false)),.d (.v (.bool false)),.d (.v (.bool false)),.d (.v (.bool false)),.d (.v (.bool false)),.d (.v (.bool false)),.d (.v (.bool false)),.d (.v (.bool false)),.d (.v (.bool false)),.d (.v (.bool false)),.d (.v (.bool false)),.d (.v (.bool false)),.d (.v (.bool false)),.d (.v (.bool false)),.d (.v (.bool false)),.d (.v (.bool false)),.d (.v (.bool false)),.d (.v (.bool false)),.d (.v (.bool false)),.d (.v (.bool false)),.d (.v (.bool false)),.d (.v (.bool false)),.d (.v (.bool false)),.d (.v (.bool false)),.d (.v (.bool false)),.d (.v (.bool false)),.d (.v (.bool false)),.d (.v (.bool false)),.d (.v (.bool false)),.d (.v (.bool false)),.d (.v (.bool false)),.d (.v (.bool false)),.d (.v (.bool false)),.d (.v (.bool false)),.d (.v (.bool false)),.d (.v (.bool false)),.d (.v (.bool false)),.d (.v (.bool false)),.d (.v (.bool false)),.d (.v (.bool false)),.d (.v (.bool false)),.d (.v (.bool false)),.d (.v (.bool false)),.d (.v (.bool false)),.d (.v (.bool false)),.d (.v (.bool false)),.d (.v (.bool false)),.d (.v (.bool false)),.d (.v (.bool false)),.d (.v (.bool false)),.d (.v (.bool false)),.d (.v (.bool false)),.d (.v (.bool false)),.d (.v (.bool false)),.d (.v (.bool false)),.d (.v (.bool false)),.d (.v (.bool false)),.d (.v (.bool false)),.d (.v (.bool false)),.d (.v (.bool false)),.d (.v (.bool false)),.d (.v (.bool false)),.d (.v (.bool false)),.d (.v (.bool false)),.d (.v (.bool false)),.d (.v (.bool false)),.d (.v (.bool false)),.d (.v (.bool false)),.d (.v (.bool false)),.d (.v (.bool false)),.d (.v (.bool false)),.d (.v (.bool false)),.d (.v (.bool false)),.d (.v (.bool false)),.d (.v (.bool false)),.d (.v (.bool false)),.d (.v (.bool false)),.d (.v (.bool false)),.d (.v (.bool false)),.d (.v (.bool false)),.d (.v (.bool false)),.d (.v (.bool false)),.d (.v (.bool false)),.d (.v (.bool false)),.d (.v (.bool false)),.d (.v (.bool false)),.d (.v (.bool false)),.d (.v (.bool false)),.d (.v (.bool false)),.d (.v (.bool false)),.d (.v (.bool false)),.d (.v (.bool false)),.d (.v (.bool false)),.d (.v (.bool false)),.d (.v (.bool false)),.d (.v (.bool false)),.d (.v (.bool false)),.d (.v (.bool false)),.d (.v (.bool false)),.d (.v (.bool false)),.d (.v (.bool false)),.d (.v (.bool false)),.d (.v (.bool false)),.d (.v (.bool false)),.d (.v (.bool false)),.d (.v (.bool false)),.d (.v (.bool false)),.d (.v (.bool false)),.d (.v (.bool false)),.d (.v (.bool false)),.d (.v (.bool false)),.d (.v (.bool false)),.d (.v (.bool false)),.d (.v (.bool false)),.d (.v (.bool false)),.d (.v (.bool false)),.d (.v (.bool false)),.d (.v (.bool false)),.d (.v (.bool false)),.d (.v (.bool false)),.d (.v (.bool false)),.d (.v (.bool false)),.d (.v (.bool false)),.d (.v (.bool false)),.d (.v (.bool false)),.d (.v (.bool false)),.d (.v (.bool false)),.d (.v (.bool false)),.d (.v (.bool false)),.d (.v (.bool false)),.d (.v (.bool false)),.d (.v (.bool false)),.d (.v (.bool false)),.d (.v (.bool false)),.d (.v (.bool false)),.d (.v (.bool false)),.d (.v (.bool false)),.d (.v (.bool false)),.d (.v (.bool false)),.d (.v (.bool false)),.d (.v (.bool false))]):=by kernel_rfl
theorem sz126 : szOf Tryd.prog 126 = some 256:=by kernel_rfl
theorem ag126 : aggB Tryd.prog 126 = some true:=by kernel_rfl
theorem zr126 : zeroS Tryd.prog 126 = some (.agg [.d (.v (.bool false)),.d (.v (.bool false)),.d (.v (.bool false)),.d (.v (.bool false)),.d (.v (.bool false)),.d (.v (.bool false)),.d (.v (.bool false)),.d (.v (.bool false)),.d (.v (.bool false)),.d (.v (.bool false)),.d (.v (.bool false)),.d (.v (.bool false)),.d (.v (.bool false)),.d (.v (.bool false)),.d (.v (.bool false)),.d (.v (.bool false)),.d (.v (.bool false)),.d (.v (.bool false)),.d (.v (.bool false)),.d (.v (.bool false)),.d (.v (.bool false)),.d (.v (.bool false)),.d (.v (.bool false)),.d (.v (.bool false)),.d (.v (.bool false)),.d (.v (.bool false)),.d (.v (.bool false)),.d (.v (.bool false)),.d (.v (.bool false)),.d (.v (.bool false)),.d (.v (.bool false)),.d (.v (.bool false)),.d (.v (.bool false)),.d (.v (.bool false)),.d (.v (.bool false)),.d (.v (.bool false)),.d (.v (.bool false)),.d (.v (.bool false)),.d (.v (.bool false)),.d (.v (.bool false)),.d (.v (.bool false)),.d (.v (.bool false)),.d (.v (.bool false)),.d (.v (.bool false)),.d (.v (.bool false)),.d (.v (.bool false)),.d (.v (.bool false)),.d (.v (.bool false)),.d (.v (.bool false)),.d (.v (.bool false)),.d (.v (.bool false)),.d (.v (.bool false)),.d (.v (.bool false)),.d (.v (.bool false)),.d (.v (.bool false)),.d (.v (.bool false)),.d (.v (.bool false)),.d (.v (.bool false)),.d (.v (.bool false)),.d (.v (.bool false)),.d (.v (.bool false)),.d (.v (.bool false)),.d (.v (.bool false)),.d (.v (.bool false)),.d (.v (.bool false)),.d (.v (.bool false)),.d (.v (.bool false)),.d (.v (.bool false)),.d (.v (.bool false)),.d (.v (.bool false)),.d (.v (.bool false)),.d (.v (.bool false)),.d (.v (.bool false)),.d (.v (.bool false)),.d (.v (.bool false)),.d (.v (.bool false)),.d (.v (.bool false)),.d (.v (.bool false)),.d (.v (.bool false)),.d (.v (.bool false)),.d (.v (.bool false)),.d (.v (.bool false)),.d (.v (.bool false)),.d (.v (.bool false)),.d (.v (.bool false)),.d (.v (.bool false)),.d (.v (.bool false)),.d (.v (.bool false)),.d (.v (.bool false)),.d (.v (.bool false)),.d (.v (.bool false)),.d (.v (.bool false)),.d (.v (.bool false)),.d (.v (.bool false)),.d (.v (.bool false)),.d (.v (.bool false)),.d (.v (.bool false)),.d (.v (.bool false)),.d (.v (.bool false)),.d (.v (.bool false)),.d (.v (.bool false)),.d (.v (.bool false)),.d (.v (.bool false)),.d (.v (.bool false)),.d (.v (.bool false)),.d (.v (.bool false)),.d (.v (.bool false)),.d (.v (.bool false)),.d (.v (.bool false)),.d (.v (.bool false)),.d (.v (.bool false)),.d (.v (.bool false)),.d (.v (.bool false)),.d (.v (.bool false)),.d (.v (.bool false)),.d (.v (.bool false)),.d (.v (.bool false)),.d (.v (.bool false)),.d (.v (.bool false)),.d (.v (.bool false)),.d (.v (.bool false)),.d (.v (.bool false)),.d (.v (.bool false)),.d (.v (.bool false)),.d (.v (.bool false)),.d (.v (.bool false)),.d (.v (.bool false)),.d (.v (.bool false)),.d (.v (.bool false)),.d (.v (.bool false)),.d (.v (.bool false)),.d (.v (.bool false)),.d (.v (.bool false)),.d (.v (.bool false)),.d (.v (.bool false)),.d (.v (.bool false)),.d (.v (.bool false)),.d (.v (.bool false)),.d (.v (.bool false)),.d (.v (.bool false)),.d (.v (.bool false)),.d (.v (.bool false)),.d (.v (.bool false)),.d (.v (.bool false)),.d (.v (.bool false)),.d (.v (.bool false)),.d (.v (.bool false)),.d (.v (.bool false)),.d (.v (.bool false)),.d (.v (.bool false)),.d (.v (.bool false)),.d (.v (.bool false)),.d (.v (.bool false)),.d (.v (.bool false)),.d (.v (.bool false)),.d (.v (.bool false)),.d (.v (.bool false)),.d (.v (.bool false)),.d (.v (.bool false)),.d (.v (.bool false)),.d (.v (.bool false)),.d (.v (.bool false)),.d (.v (.bool false)),.d (.v (.bool false)),.d (.v (.bool false)),.d (.v (.bool false)),.d (.v (.bool false)),.d (.v (.bool false)),.d (.v (.bool false)),.d (.v (.bool false)),.d (.v (.bool false)),.d (.v (.bool false)),.d (.v (.bool false)),.d (.v (.bool false)),.d (.v (.bool false)),.d (.v (.bool false)),.d (.v (.bool false)),.d (.v (.bool false)),.d (.v (.bool false)),.d (.v (.bool false)),.d (.v (.bool false)),.d (.v (.bool false)),.d (.v (.bool false)),.d (.v (.bool false)),.d (.v (.bool false)),.d (.v (.bool false)),.d (.v (.bool false)),.d (.v (.bool false)),.d (.v (.bool false)),.d (.v (.bool false)),.d (.v (.bool false)),.d (.v (.bool false)),.d (.v (.bool false)),.d (.v (.bool false)),.d (.v (.bool false)),.d (.v (.bool false)),.d (.v (.bool false)),.d (.v (.bool false)),.d (.v (.bool false)),.d (.v (.bool false)),.d (.v (.bool false)),.d (.v (.bool false)),.d (.v (.bool false)),.d (.v (.bool false)),.d (.v (.bool false)),.d (.v (.bool false)),.d (.v (.bool false)),.d (.v (.bool false)),.d (.v (.bool false)),.d (.v (.bool false)),.d (.v (.bool false)),.d (.v (.bool false)),.d (.v (.bool false)),.d (.v (.bool false)),.d (.v (.bool false)),.d (.v (.bool false)),.d (.v (.bool false)),.d (.v (.bool false)),.d (.v (.bool false)),.d (.v (.bool false)),.d (.v (.bool false)),.d (.v (.bool false)),.d (.v (.bool false)),.d (.v (.bool false)),.d (.v (.bool false)),.d (.v (.bool false)),.d (.v (.bool false)),.d (.v (.bool false)),.d (.v (.bool false)),.d (.v (.bool false)),.d (.v (.bool false)),.d (.v (.bool false)),.d (.v (.bool false)),.d (.v (.bool false)),.d (.v (.bool false)),.d (.v (.bool false)),.d (.v (.bool false)),.d (.v (.bool false)),.d (.v (.bool false)),.d (.v (.bool false)),.d (.v (.bool false)),.d (.v (.bool false)),.d (.v (.bool false)),.d (.v (.bool false)),.d (.v (.bool false)),.d (.v (.bool false)),.d (.v (.bool false)),.d (.v (.bool false)),.d (.v (.bool false)),.d (.v (.bool false)),.d (.v (.bool false)),.d (.v (.bool false)),.d (.v (.bool false)),.d (.v (.bool false)),.d (.v (.bool false)),.d (.v (.bool false))]):=by kernel_rfl
theorem sz127 : szOf Tryd.prog 127 = some 1:=by kernel_rfl
theorem ag127 : aggB Tryd.prog 127 = some false:=by kernel_rfl
-- no zero of 127: tuple tuple 2 agg 256 bool 0 bool 0
theorem sz130 : szOf Tryd.prog 130 = some 1:=by kernel_rfl
theorem ag130 : aggB Tryd.prog 130 = some false:=by kernel_rfl
theorem zr130 : zeroS Tryd.prog 130 = some (.d (.v (.pointer none))):=by kernel_rfl
open And renaming intro → ai
theorem TAS : tyOf (ai sz2 (ai ag2 (ai zr2 (ai un2 (ai sz3 (ai ag3 (ai zr3 (ai un3 (ai sz4 (ai ag4 (ai zr4 (ai sz5 (ai ag5 (ai zr5 (ai un5 (ai sz9 (ai ag9 (ai zr9 (ai un9 (ai sz20 (ai ag20 (ai zr20 (ai sz22 (ai ag22 (ai zr22 (ai el22 (ai un22 (ai by22 (ai ez22 (ai sz23 (ai ag23 (ai zr23 (ai el23 (ai un23 (ai by23 (ai ez23 (ai sz25 (ai ag25 (ai zr25 (ai pl25 (ai fl25_0 (ai pt25_0 (ai fl25_1 (ai pt25_1 (ai fl25_2 (ai pt25_2 (ai fl25_3 (ai pt25_3 (ai fl25_4 (ai pt25_4 (ai fl25_5 (ai pt25_5 (ai fl25_6 (ai pt25_6 (ai sz26 (ai ag26 (ai zr26 (ai un26 (ai sz27 (ai ag27 (ai sz30 (ai ag30 (ai zr30 (ai pl30 (ai fl30_0 (ai pt30_0 (ai fl30_1 (ai pt30_1 (ai sz31 (ai ag31 (ai sz35 (ai ag35 (ai sz38 (ai ag38 (ai sz48 (ai ag48 (ai zr48 (ai sz50 (ai ag50 (ai zr50 (ai pl50 (ai fl50_0 (ai pt50_0 (ai fl50_1 (ai pt50_1 (ai sz52 (ai ag52 (ai zr52 (ai pl52 (ai fl52_0 (ai pt52_0 (ai sz55 (ai ag55 (ai zr55 (ai un55 (ai mo55 (ai sz56 (ai ag56 (ai zr56 (ai el56 (ai un56 (ai by56 (ai ez56 (ai sz57 (ai ag57 (ai zr57 (ai el57 (ai un57 (ai by57 (ai ez57 (ai sz59 (ai ag59 (ai zr59 (ai pl59 (ai fl59_0 (ai pt59_0 (ai fl59_1 (ai pt59_1 (ai sz62 (ai ag62 (ai zr62 (ai pl62 (ai fl62_0 (ai pt62_0 (ai fl62_1 (ai pt62_1 (ai sz63 (ai ag63 (ai zr63 (ai el63 (ai un63 (ai by63 (ai ez63 (ai sz64 (ai ag64 (ai zr64 (ai un64 (ai mo64 (ai sz66 (ai ag66 (ai sz82 (ai ag82 (ai zr82 (ai sz85 (ai ag85 (ai zr85 (ai sz86 (ai ag86 (ai zr86 (ai el86 (ai un86 (ai by86 (ai ez86 (ai sz89 (ai ag89 (ai zr89 (ai pl89 (ai fl89_0 (ai pt89_0 (ai fl89_1 (ai pt89_1 (ai sz94 (ai ag94 (ai zr94 (ai el94 (ai un94 (ai by94 (ai ez94 (ai sz95 (ai ag95 (ai zr95 (ai pl95 (ai fl95_0 (ai pt95_0 (ai fl95_1 (ai pt95_1 (ai fl95_2 (ai pt95_2 (ai fl95_3 (ai pt95_3 (ai fl95_4 (ai pt95_4 (ai sz96 (ai ag96 (ai zr96 (ai pl96 (ai fl96_0 (ai pt96_0 (ai fl96_1 (ai pt96_1 (ai fl96_2 (ai pt96_2 (ai fl96_3 (ai pt96_3 (ai fl96_4 (ai pt96_4 (ai sz99 (ai ag99 (ai zr99 (ai el99 (ai un99 (ai by99 (ai ez99 (ai sz116 (ai ag116 (ai sz119 (ai ag119 (ai zr119 (ai un119 (ai sz121 (ai ag121 (ai zr121 (ai un121 (ai sz125 (ai ag125 (ai zr125 (ai sz126 (ai ag126 (ai zr126 (ai sz127 (ai ag127 (ai sz130 (ai ag130 zr130))))))))))))))))))))))))))))))))))))))))))))))))))))))))))))))))))))))))))))))))))))))))))))))))))))))))))))))))))))))))))))))))))))))))))))))))))))))))))))))))))))))))))))))))))))))))))))))))))))))))))))))))))))))))))))))) := tyOk _
theorem WA : tyOf (And.intro UN (And.intro LM (TAS))):=tyOk _
end Go.Proofs.YtlnmkdbcdcknjaaDoor
