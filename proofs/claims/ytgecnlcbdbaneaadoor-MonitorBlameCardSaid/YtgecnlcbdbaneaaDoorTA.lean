/- Facts on the types that the walks meet: sizes, zeros, fields, elements. -/
import Derived.Test.YtgecnlcbdbaneaaDoorSwB
import Derived.Test.YtgecnlcbdbaneaaDoorSwD
import Derived.Test.YtgecnlcbdbaneaaDoorProg
set_option linter.unusedVariables false
set_option maxRecDepth 100000
namespace Go.Proofs.YtgecnlcbdbaneaaDoor
open Go.Sw

theorem sz2 : szOf Tryd.prog 2 = some 1:=by kernel_rfl
theorem ag2 : aggB Tryd.prog 2 = some false:=by kernel_rfl
theorem zr2 : zeroS Tryd.prog 2 = some (.d (.v (.int .i64 0))):=by kernel_rfl
theorem un2 : Tryd.prog.underlying 2 = some (.int .i64):=by kernel_rfl
theorem sz3 : szOf Tryd.prog 3 = some 1:=by kernel_rfl
theorem ag3 : aggB Tryd.prog 3 = some false:=by kernel_rfl
theorem zr3 : zeroS Tryd.prog 3 = some (.d (.v (.int .i64 0))):=by kernel_rfl
theorem un3 : Tryd.prog.underlying 3 = some (.int .i64):=by kernel_rfl
theorem sz4 : szOf Tryd.prog 4 = some 1:=by kernel_rfl
theorem ag4 : aggB Tryd.prog 4 = some false:=by kernel_rfl
theorem zr4 : zeroS Tryd.prog 4 = some (.d (.v (.bool false))):=by kernel_rfl
theorem sz5 : szOf Tryd.prog 5 = some 1:=by kernel_rfl
theorem ag5 : aggB Tryd.prog 5 = some false:=by kernel_rfl
theorem zr5 : zeroS Tryd.prog 5 = some (.d (.v (.int .u8 0))):=by kernel_rfl
theorem un5 : Tryd.prog.underlying 5 = some (.int .u8):=by kernel_rfl
theorem sz9 : szOf Tryd.prog 9 = some 1:=by kernel_rfl
theorem ag9 : aggB Tryd.prog 9 = some false:=by kernel_rfl
theorem zr9 : zeroS Tryd.prog 9 = some (.d (.v (.string ⟨#[]⟩))):=by kernel_rfl
theorem un9 : Tryd.prog.underlying 9 = some .string:=by kernel_rfl
theorem sz22 : szOf Tryd.prog 22 = some 1:=by kernel_rfl
theorem ag22 : aggB Tryd.prog 22 = some false:=by kernel_rfl
theorem zr22 : zeroS Tryd.prog 22 = some (.nil):=by kernel_rfl
theorem el22 : elemSz Tryd.prog 22 = some 1:=by kernel_rfl
theorem un22 : Tryd.prog.underlying 22 = some (.slice 9):=by kernel_rfl
theorem by22 : elemBy Tryd.prog 22 = some 16:=by kernel_rfl
theorem ez22 : elemZ Tryd.prog 22 = true:=by kernel_rfl
theorem sz23 : szOf Tryd.prog 23 = some 1:=by kernel_rfl
theorem ag23 : aggB Tryd.prog 23 = some false:=by kernel_rfl
theorem zr23 : zeroS Tryd.prog 23 = some (.nil):=by kernel_rfl
theorem el23 : elemSz Tryd.prog 23 = some 5:=by kernel_rfl
theorem un23 : Tryd.prog.underlying 23 = some (.slice 25):=by kernel_rfl
theorem by23 : elemBy Tryd.prog 23 = some 80:=by kernel_rfl
theorem ez23 : elemZ Tryd.prog 23 = true:=by kernel_rfl
theorem sz24 : szOf Tryd.prog 24 = some 5:=by kernel_rfl
theorem ag24 : aggB Tryd.prog 24 = some true:=by kernel_rfl
theorem zr24 : zeroS Tryd.prog 24 = some (.agg [.d (.v (.int .i64 0)),.d (.v (.int .i64 0)),.d (.v (.string ⟨#[]⟩)),.nil,.nil]):=by kernel_rfl
theorem pl24 : plcs Tryd.prog 24 = some [(0,1),(1,1),(2,1),(3,1),(4,1)]:=by kernel_rfl
theorem fl24_0 : fldOf Tryd.prog 24 0 = some (0,1):=by kernel_rfl
theorem pt24_0 : partOf Tryd.prog 24 0 = some (0,1):=by kernel_rfl
theorem fl24_1 : fldOf Tryd.prog 24 1 = some (1,1):=by kernel_rfl
theorem pt24_1 : partOf Tryd.prog 24 1 = some (1,1):=by kernel_rfl
theorem fl24_2 : fldOf Tryd.prog 24 2 = some (2,1):=by kernel_rfl
theorem pt24_2 : partOf Tryd.prog 24 2 = some (2,1):=by kernel_rfl
theorem fl24_3 : fldOf Tryd.prog 24 3 = some (3,1):=by kernel_rfl
theorem pt24_3 : partOf Tryd.prog 24 3 = some (3,1):=by kernel_rfl
theorem fl24_4 : fldOf Tryd.prog 24 4 = some (4,1):=by kernel_rfl
theorem pt24_4 : partOf Tryd.prog 24 4 = some (4,1):=by kernel_rfl
theorem sz25 : szOf Tryd.prog 25 = some 5:=by kernel_rfl
theorem ag25 : aggB Tryd.prog 25 = some true:=by kernel_rfl
theorem zr25 : zeroS Tryd.prog 25 = some (.agg [.d (.v (.int .i64 0)),.d (.v (.int .i64 0)),.d (.v (.string ⟨#[]⟩)),.nil,.nil]):=by kernel_rfl
theorem pl25 : plcs Tryd.prog 25 = some [(0,1),(1,1),(2,1),(3,1),(4,1)]:=by kernel_rfl
theorem fl25_0 : fldOf Tryd.prog 25 0 = some (0,1):=by kernel_rfl
theorem pt25_0 : partOf Tryd.prog 25 0 = some (0,1):=by kernel_rfl
theorem fl25_1 : fldOf Tryd.prog 25 1 = some (1,1):=by kernel_rfl
theorem pt25_1 : partOf Tryd.prog 25 1 = some (1,1):=by kernel_rfl
theorem fl25_2 : fldOf Tryd.prog 25 2 = some (2,1):=by kernel_rfl
theorem pt25_2 : partOf Tryd.prog 25 2 = some (2,1):=by kernel_rfl
theorem fl25_3 : fldOf Tryd.prog 25 3 = some (3,1):=by kernel_rfl
theorem pt25_3 : partOf Tryd.prog 25 3 = some (3,1):=by kernel_rfl
theorem fl25_4 : fldOf Tryd.prog 25 4 = some (4,1):=by kernel_rfl
theorem pt25_4 : partOf Tryd.prog 25 4 = some (4,1):=by kernel_rfl
theorem sz26 : szOf Tryd.prog 26 = some 1:=by kernel_rfl
theorem ag26 : aggB Tryd.prog 26 = some false:=by kernel_rfl
theorem zr26 : zeroS Tryd.prog 26 = some (.nil):=by kernel_rfl
theorem el26 : elemSz Tryd.prog 26 = some 4:=by kernel_rfl
theorem un26 : Tryd.prog.underlying 26 = some (.slice 82):=by kernel_rfl
theorem by26 : elemBy Tryd.prog 26 = some 64:=by kernel_rfl
theorem ez26 : elemZ Tryd.prog 26 = true:=by kernel_rfl
theorem sz27 : szOf Tryd.prog 27 = some 1:=by kernel_rfl
theorem ag27 : aggB Tryd.prog 27 = some false:=by kernel_rfl
theorem zr27 : zeroS Tryd.prog 27 = some (.d (.v (.int .i64 0))):=by kernel_rfl
theorem un27 : Tryd.prog.underlying 27 = some (.int .i64):=by kernel_rfl
theorem sz28 : szOf Tryd.prog 28 = some 1:=by kernel_rfl
theorem ag28 : aggB Tryd.prog 28 = some false:=by kernel_rfl
-- no zero of 28: tuple tuple 2 slice - 0 0 int i64
theorem sz30 : szOf Tryd.prog 30 = some 1:=by kernel_rfl
theorem ag30 : aggB Tryd.prog 30 = some false:=by kernel_rfl
-- no zero of 30: tuple tuple 2 agg 5 int i64 0 int
theorem sz32 : szOf Tryd.prog 32 = some 1:=by kernel_rfl
theorem ag32 : aggB Tryd.prog 32 = some false:=by kernel_rfl
-- no zero of 32: tuple tuple 2 bool 0 int i64 0 0
theorem sz39 : szOf Tryd.prog 39 = some 1:=by kernel_rfl
theorem ag39 : aggB Tryd.prog 39 = some false:=by kernel_rfl
-- no zero of 39: tuple tuple 2 slice - 0 0 int i64
theorem sz50 : szOf Tryd.prog 50 = some 1:=by kernel_rfl
theorem ag50 : aggB Tryd.prog 50 = some false:=by kernel_rfl
theorem zr50 : zeroS Tryd.prog 50 = some (.nil):=by kernel_rfl
theorem el50 : elemSz Tryd.prog 50 = some 1:=by kernel_rfl
theorem un50 : Tryd.prog.underlying 50 = some (.slice 3):=by kernel_rfl
theorem by50 : elemBy Tryd.prog 50 = some 8:=by kernel_rfl
theorem ez50 : elemZ Tryd.prog 50 = true:=by kernel_rfl
theorem sz71 : szOf Tryd.prog 71 = some 1:=by kernel_rfl
theorem ag71 : aggB Tryd.prog 71 = some true:=by kernel_rfl
theorem zr71 : zeroS Tryd.prog 71 = some (.agg [.nil]):=by kernel_rfl
theorem pl71 : plcs Tryd.prog 71 = some [(0,1)]:=by kernel_rfl
theorem fl71_0 : fldOf Tryd.prog 71 0 = some (0,1):=by kernel_rfl
theorem pt71_0 : partOf Tryd.prog 71 0 = some (0,1):=by kernel_rfl
theorem sz72 : szOf Tryd.prog 72 = some 1:=by kernel_rfl
theorem ag72 : aggB Tryd.prog 72 = some true:=by kernel_rfl
theorem zr72 : zeroS Tryd.prog 72 = some (.agg [.nil]):=by kernel_rfl
theorem pl72 : plcs Tryd.prog 72 = some [(0,1)]:=by kernel_rfl
theorem fl72_0 : fldOf Tryd.prog 72 0 = some (0,1):=by kernel_rfl
theorem pt72_0 : partOf Tryd.prog 72 0 = some (0,1):=by kernel_rfl
theorem sz74 : szOf Tryd.prog 74 = some 1:=by kernel_rfl
theorem ag74 : aggB Tryd.prog 74 = some false:=by kernel_rfl
theorem zr74 : zeroS Tryd.prog 74 = some (.d (.v .nilFunc)):=by kernel_rfl
theorem sz81 : szOf Tryd.prog 81 = some 4:=by kernel_rfl
theorem ag81 : aggB Tryd.prog 81 = some true:=by kernel_rfl
theorem zr81 : zeroS Tryd.prog 81 = some (.agg [.d (.v (.int .i64 0)),.d (.v (.int .i64 0)),.nil,.nil]):=by kernel_rfl
theorem pl81 : plcs Tryd.prog 81 = some [(0,1),(1,1),(2,1),(3,1)]:=by kernel_rfl
theorem fl81_0 : fldOf Tryd.prog 81 0 = some (0,1):=by kernel_rfl
theorem pt81_0 : partOf Tryd.prog 81 0 = some (0,1):=by kernel_rfl
theorem fl81_1 : fldOf Tryd.prog 81 1 = some (1,1):=by kernel_rfl
theorem pt81_1 : partOf Tryd.prog 81 1 = some (1,1):=by kernel_rfl
theorem fl81_2 : fldOf Tryd.prog 81 2 = some (2,1):=by kernel_rfl
theorem pt81_2 : partOf Tryd.prog 81 2 = some (2,1):=by kernel_rfl
theorem fl81_3 : fldOf Tryd.prog 81 3 = some (3,1):=by kernel_rfl
theorem pt81_3 : partOf Tryd.prog 81 3 = some (3,1):=by kernel_rfl
theorem sz82 : szOf Tryd.prog 82 = some 4:=by kernel_rfl
theorem ag82 : aggB Tryd.prog 82 = some true:=by kernel_rfl
theorem zr82 : zeroS Tryd.prog 82 = some (.agg [.d (.v (.int .i64 0)),.d (.v (.int .i64 0)),.nil,.nil]):=by kernel_rfl
theorem pl82 : plcs Tryd.prog 82 = some [(0,1),(1,1),(2,1),(3,1)]:=by kernel_rfl
theorem fl82_0 : fldOf Tryd.prog 82 0 = some (0,1):=by kernel_rfl
theorem pt82_0 : partOf Tryd.prog 82 0 = some (0,1):=by kernel_rfl
theorem fl82_1 : fldOf Tryd.prog 82 1 = some (1,1):=by kernel_rfl
theorem pt82_1 : partOf Tryd.prog 82 1 = some (1,1):=by kernel_rfl
theorem fl82_2 : fldOf Tryd.prog 82 2 = some (2,1):=by kernel_rfl
theorem pt82_2 : partOf Tryd.prog 82 2 = some (2,1):=by kernel_rfl
theorem fl82_3 : fldOf Tryd.prog 82 3 = some (3,1):=by kernel_rfl
theorem pt82_3 : partOf Tryd.prog 82 3 = some (3,1):=by kernel_rfl
theorem sz87 : szOf Tryd.prog 87 = some 1:=by kernel_rfl
theorem ag87 : aggB Tryd.prog 87 = some false:=by kernel_rfl
-- no zero of 87: tuple tuple 2 slice - 0 0 bool 0
theorem sz90 : szOf Tryd.prog 90 = some 2:=by kernel_rfl
theorem ag90 : aggB Tryd.prog 90 = some true:=by kernel_rfl
theorem zr90 : zeroS Tryd.prog 90 = some (.agg [.d (.v (.int .i64 0)),.d (.v (.int .i64 0))]):=by kernel_rfl
theorem pl90 : plcs Tryd.prog 90 = some [(0,1),(1,1)]:=by kernel_rfl
theorem fl90_0 : fldOf Tryd.prog 90 0 = some (0,1):=by kernel_rfl
theorem pt90_0 : partOf Tryd.prog 90 0 = some (0,1):=by kernel_rfl
theorem fl90_1 : fldOf Tryd.prog 90 1 = some (1,1):=by kernel_rfl
theorem pt90_1 : partOf Tryd.prog 90 1 = some (1,1):=by kernel_rfl
theorem sz91 : szOf Tryd.prog 91 = some 1:=by kernel_rfl
theorem ag91 : aggB Tryd.prog 91 = some false:=by kernel_rfl
theorem zr91 : zeroS Tryd.prog 91 = some (.d (.v (.map none))):=by kernel_rfl
theorem un91 : Tryd.prog.underlying 91 = some (.map 90 3):=by kernel_rfl
theorem mo91 : mapOf Tryd.prog 91 = some (90,(.int .i64 0)):=by kernel_rfl
theorem sz92 : szOf Tryd.prog 92 = some 1:=by kernel_rfl
theorem ag92 : aggB Tryd.prog 92 = some false:=by kernel_rfl
theorem zr92 : zeroS Tryd.prog 92 = some (.nil):=by kernel_rfl
theorem el92 : elemSz Tryd.prog 92 = some 2:=by kernel_rfl
theorem un92 : Tryd.prog.underlying 92 = some (.slice 90):=by kernel_rfl
theorem by92 : elemBy Tryd.prog 92 = some 16:=by kernel_rfl
theorem ez92 : elemZ Tryd.prog 92 = true:=by kernel_rfl
theorem sz93 : szOf Tryd.prog 93 = some 1:=by kernel_rfl
theorem ag93 : aggB Tryd.prog 93 = some false:=by kernel_rfl
-- no zero of 93: tuple tuple 3 slice - 0 0 slice -
theorem sz96 : szOf Tryd.prog 96 = some 2:=by kernel_rfl
theorem ag96 : aggB Tryd.prog 96 = some true:=by kernel_rfl
theorem zr96 : zeroS Tryd.prog 96 = some (.agg [.nil,.nil]):=by kernel_rfl
theorem pl96 : plcs Tryd.prog 96 = some [(0,1),(1,1)]:=by kernel_rfl
theorem fl96_0 : fldOf Tryd.prog 96 0 = some (0,1):=by kernel_rfl
theorem pt96_0 : partOf Tryd.prog 96 0 = some (0,1):=by kernel_rfl
theorem fl96_1 : fldOf Tryd.prog 96 1 = some (1,1):=by kernel_rfl
theorem pt96_1 : partOf Tryd.prog 96 1 = some (1,1):=by kernel_rfl
theorem sz97 : szOf Tryd.prog 97 = some 2:=by kernel_rfl
theorem ag97 : aggB Tryd.prog 97 = some true:=by kernel_rfl
theorem zr97 : zeroS Tryd.prog 97 = some (.agg [.nil,.nil]):=by kernel_rfl
theorem pl97 : plcs Tryd.prog 97 = some [(0,1),(1,1)]:=by kernel_rfl
theorem fl97_0 : fldOf Tryd.prog 97 0 = some (0,1):=by kernel_rfl
theorem pt97_0 : partOf Tryd.prog 97 0 = some (0,1):=by kernel_rfl
theorem fl97_1 : fldOf Tryd.prog 97 1 = some (1,1):=by kernel_rfl
theorem pt97_1 : partOf Tryd.prog 97 1 = some (1,1):=by kernel_rfl
theorem sz107 : szOf Tryd.prog 107 = some 1:=by kernel_rfl
theorem ag107 : aggB Tryd.prog 107 = some false:=by kernel_rfl
-- no zero of 107: tuple tuple 2 agg 2 slice - 0 0
theorem sz113 : szOf Tryd.prog 113 = some 1:=by kernel_rfl
theorem ag113 : aggB Tryd.prog 113 = some false:=by kernel_rfl
theorem zr113 : zeroS Tryd.prog 113 = some (.d (.v (.map none))):=by kernel_rfl
theorem un113 : Tryd.prog.underlying 113 = some (.map 3 3):=by kernel_rfl
theorem mo113 : mapOf Tryd.prog 113 = some (3,(.int .i64 0)):=by kernel_rfl
theorem sz114 : szOf Tryd.prog 114 = some 1:=by kernel_rfl
theorem ag114 : aggB Tryd.prog 114 = some false:=by kernel_rfl
-- no zero of 114: tuple tuple 2 int i64 0 bool 0 0
theorem sz116 : szOf Tryd.prog 116 = some 3:=by kernel_rfl
theorem ag116 : aggB Tryd.prog 116 = some true:=by kernel_rfl
theorem zr116 : zeroS Tryd.prog 116 = some (.agg [.d (.v (.int .i64 0)),.d (.v (.int .i64 0)),.nil]):=by kernel_rfl
theorem pl116 : plcs Tryd.prog 116 = some [(0,2),(2,1)]:=by kernel_rfl
theorem fl116_0 : fldOf Tryd.prog 116 0 = some (0,2):=by kernel_rfl
theorem pt116_0 : partOf Tryd.prog 116 0 = some (0,2):=by kernel_rfl
theorem fl116_1 : fldOf Tryd.prog 116 1 = some (2,1):=by kernel_rfl
theorem pt116_1 : partOf Tryd.prog 116 1 = some (2,1):=by kernel_rfl
theorem sz117 : szOf Tryd.prog 117 = some 3:=by kernel_rfl
theorem ag117 : aggB Tryd.prog 117 = some true:=by kernel_rfl
theorem zr117 : zeroS Tryd.prog 117 = some (.agg [.d (.v (.int .i64 0)),.d (.v (.int .i64 0)),.nil]):=by kernel_rfl
theorem pl117 : plcs Tryd.prog 117 = some [(0,2),(2,1)]:=by kernel_rfl
theorem fl117_0 : fldOf Tryd.prog 117 0 = some (0,2):=by kernel_rfl
theorem pt117_0 : partOf Tryd.prog 117 0 = some (0,2):=by kernel_rfl
theorem fl117_1 : fldOf Tryd.prog 117 1 = some (2,1):=by kernel_rfl
theorem pt117_1 : partOf Tryd.prog 117 1 = some (2,1):=by kernel_rfl
theorem sz118 : szOf Tryd.prog 118 = some 1:=by kernel_rfl
theorem ag118 : aggB Tryd.prog 118 = some false:=by kernel_rfl
theorem zr118 : zeroS Tryd.prog 118 = some (.nil):=by kernel_rfl
theorem el118 : elemSz Tryd.prog 118 = some 3:=by kernel_rfl
theorem un118 : Tryd.prog.underlying 118 = some (.slice 117):=by kernel_rfl
theorem by118 : elemBy Tryd.prog 118 = some 40:=by kernel_rfl
theorem ez118 : elemZ Tryd.prog 118 = true:=by kernel_rfl
theorem sz127 : szOf Tryd.prog 127 = some 3:=by kernel_rfl
theorem ag127 : aggB Tryd.prog 127 = some true:=by kernel_rfl
theorem zr127 : zeroS Tryd.prog 127 = some (.agg [.d (.v (.int .i64 0)),.d (.v (.int .i64 0)),.d (.v (.bool false))]):=by kernel_rfl
theorem pl127 : plcs Tryd.prog 127 = some [(0,1),(1,1),(2,1)]:=by kernel_rfl
theorem fl127_0 : fldOf Tryd.prog 127 0 = some (0,1):=by kernel_rfl
theorem pt127_0 : partOf Tryd.prog 127 0 = some (0,1):=by kernel_rfl
theorem fl127_1 : fldOf Tryd.prog 127 1 = some (1,1):=by kernel_rfl
theorem pt127_1 : partOf Tryd.prog 127 1 = some (1,1):=by kernel_rfl
theorem fl127_2 : fldOf Tryd.prog 127 2 = some (2,1):=by kernel_rfl
theorem pt127_2 : partOf Tryd.prog 127 2 = some (2,1):=by kernel_rfl
theorem sz128 : szOf Tryd.prog 128 = some 3:=by kernel_rfl
theorem ag128 : aggB Tryd.prog 128 = some true:=by kernel_rfl
theorem zr128 : zeroS Tryd.prog 128 = some (.agg [.d (.v (.int .i64 0)),.d (.v (.int .i64 0)),.d (.v (.bool false))]):=by kernel_rfl
theorem pl128 : plcs Tryd.prog 128 = some [(0,1),(1,1),(2,1)]:=by kernel_rfl
theorem fl128_0 : fldOf Tryd.prog 128 0 = some (0,1):=by kernel_rfl
theorem pt128_0 : partOf Tryd.prog 128 0 = some (0,1):=by kernel_rfl
theorem fl128_1 : fldOf Tryd.prog 128 1 = some (1,1):=by kernel_rfl
theorem pt128_1 : partOf Tryd.prog 128 1 = some (1,1):=by kernel_rfl
theorem fl128_2 : fldOf Tryd.prog 128 2 = some (2,1):=by kernel_rfl
theorem pt128_2 : partOf Tryd.prog 128 2 = some (2,1):=by kernel_rfl
theorem sz129 : szOf Tryd.prog 129 = some 1:=by kernel_rfl
theorem ag129 : aggB Tryd.prog 129 = some false:=by kernel_rfl
theorem zr129 : zeroS Tryd.prog 129 = some (.d (.v (.map none))):=by kernel_rfl
theorem un129 : Tryd.prog.underlying 129 = some (.map 128 3):=by kernel_rfl
theorem mo129 : mapOf Tryd.prog 129 = some (128,(.int .i64 0)):=by kernel_rfl
theorem sz130 : szOf Tryd.prog 130 = some 4:=by kernel_rfl
theorem ag130 : aggB Tryd.prog 130 = some true:=by kernel_rfl
theorem zr130 : zeroS Tryd.prog 130 = some (.agg [.d (.v (.int .i64 0)),.d (.v (.int .i64 0)),.d (.v (.bool false)),.nil]):=by kernel_rfl
theorem pl130 : plcs Tryd.prog 130 = some [(0,3),(3,1)]:=by kernel_rfl
theorem fl130_0 : fldOf Tryd.prog 130 0 = some (0,3):=by kernel_rfl
theorem pt130_0 : partOf Tryd.prog 130 0 = some (0,3):=by kernel_rfl
theorem fl130_1 : fldOf Tryd.prog 130 1 = some (3,1):=by kernel_rfl
theorem pt130_1 : partOf Tryd.prog 130 1 = some (3,1):=by kernel_rfl
theorem sz131 : szOf Tryd.prog 131 = some 4:=by kernel_rfl
theorem ag131 : aggB Tryd.prog 131 = some true:=by kernel_rfl
theorem zr131 : zeroS Tryd.prog 131 = some (.agg [.d (.v (.int .i64 0)),.d (.v (.int .i64 0)),.d (.v (.bool false)),.nil]):=by kernel_rfl
theorem pl131 : plcs Tryd.prog 131 = some [(0,3),(3,1)]:=by kernel_rfl
theorem fl131_0 : fldOf Tryd.prog 131 0 = some (0,3):=by kernel_rfl
theorem pt131_0 : partOf Tryd.prog 131 0 = some (0,3):=by kernel_rfl
theorem fl131_1 : fldOf Tryd.prog 131 1 = some (3,1):=by kernel_rfl
theorem pt131_1 : partOf Tryd.prog 131 1 = some (3,1):=by kernel_rfl
theorem sz132 : szOf Tryd.prog 132 = some 1:=by kernel_rfl
theorem ag132 : aggB Tryd.prog 132 = some false:=by kernel_rfl
theorem zr132 : zeroS Tryd.prog 132 = some (.nil):=by kernel_rfl
theorem el132 : elemSz Tryd.prog 132 = some 4:=by kernel_rfl
theorem un132 : Tryd.prog.underlying 132 = some (.slice 131):=by kernel_rfl
theorem by132 : elemBy Tryd.prog 132 = some 48:=by kernel_rfl
theorem ez132 : elemZ Tryd.prog 132 = true:=by kernel_rfl
theorem sz133 : szOf Tryd.prog 133 = some 1:=by kernel_rfl
theorem ag133 : aggB Tryd.prog 133 = some false:=by kernel_rfl
theorem zr133 : zeroS Tryd.prog 133 = some (.nil):=by kernel_rfl
theorem el133 : elemSz Tryd.prog 133 = some 4:=by kernel_rfl
theorem un133 : Tryd.prog.underlying 133 = some (.slice 137):=by kernel_rfl
theorem by133 : elemBy Tryd.prog 133 = some 40:=by kernel_rfl
theorem ez133 : elemZ Tryd.prog 133 = true:=by kernel_rfl
theorem sz134 : szOf Tryd.prog 134 = some 1:=by kernel_rfl
theorem ag134 : aggB Tryd.prog 134 = some false:=by kernel_rfl
-- no zero of 134: tuple tuple 2 slice - 0 0 bool 0
theorem sz136 : szOf Tryd.prog 136 = some 4:=by kernel_rfl
theorem ag136 : aggB Tryd.prog 136 = some true:=by kernel_rfl
theorem zr136 : zeroS Tryd.prog 136 = some (.agg [.d (.v (.string ⟨#[]⟩)),.d (.v (.int .i64 0)),.d (.v (.int .i64 0)),.d (.v (.bool false))]):=by kernel_rfl
theorem pl136 : plcs Tryd.prog 136 = some [(0,1),(1,3)]:=by kernel_rfl
theorem fl136_0 : fldOf Tryd.prog 136 0 = some (0,1):=by kernel_rfl
theorem pt136_0 : partOf Tryd.prog 136 0 = some (0,1):=by kernel_rfl
theorem fl136_1 : fldOf Tryd.prog 136 1 = some (1,3):=by kernel_rfl
theorem pt136_1 : partOf Tryd.prog 136 1 = some (1,3):=by kernel_rfl
theorem sz137 : szOf Tryd.prog 137 = some 4:=by kernel_rfl
theorem ag137 : aggB Tryd.prog 137 = some true:=by kernel_rfl
theorem zr137 : zeroS Tryd.prog 137 = some (.agg [.d (.v (.string ⟨#[]⟩)),.d (.v (.int .i64 0)),.d (.v (.int .i64 0)),.d (.v (.bool false))]):=by kernel_rfl
theorem pl137 : plcs Tryd.prog 137 = some [(0,1),(1,3)]:=by kernel_rfl
theorem fl137_0 : fldOf Tryd.prog 137 0 = some (0,1):=by kernel_rfl
theorem pt137_0 : partOf Tryd.prog 137 0 = some (0,1):=by kernel_rfl
theorem fl137_1 : fldOf Tryd.prog 137 1 = some (1,3):=by kernel_rfl
theorem pt137_1 : partOf Tryd.prog 137 1 = some (1,3):=by kernel_rfl
theorem sz142 : szOf Tryd.prog 142 = some 1:=by kernel_rfl
theorem ag142 : aggB Tryd.prog 142 = some false:=by kernel_rfl
theorem zr142 : zeroS Tryd.prog 142 = some (.d (.v (.map none))):=by kernel_rfl
theorem un142 : Tryd.prog.underlying 142 = some (.map 9 3):=by kernel_rfl
theorem mo142 : mapOf Tryd.prog 142 = some (9,(.int .i64 0)):=by kernel_rfl
theorem sz147 : szOf Tryd.prog 147 = some 1:=by kernel_rfl
theorem ag147 : aggB Tryd.prog 147 = some false:=by kernel_rfl
-- no zero of 147: tuple tuple 2 agg 4 int i64 0 int
theorem sz165 : szOf Tryd.prog 165 = some 1:=by kernel_rfl
theorem ag165 : aggB Tryd.prog 165 = some false:=by kernel_rfl
theorem zr165 : zeroS Tryd.prog 165 = some (.nil):=by kernel_rfl
theorem el165 : elemSz Tryd.prog 165 = some 1:=by kernel_rfl
theorem un165 : Tryd.prog.underlying 165 = some (.slice 5):=by kernel_rfl
theorem by165 : elemBy Tryd.prog 165 = some 1:=by kernel_rfl
theorem ez165 : elemZ Tryd.prog 165 = true:=by kernel_rfl
theorem sz177 : szOf Tryd.prog 177 = some 1:=by kernel_rfl
theorem ag177 : aggB Tryd.prog 177 = some false:=by kernel_rfl
theorem zr177 : zeroS Tryd.prog 177 = some (.d (.v (.int .u32 0))):=by kernel_rfl
theorem un177 : Tryd.prog.underlying 177 = some (.int .u32):=by kernel_rfl
theorem sz179 : szOf Tryd.prog 179 = some 256:=by kernel_rfl
theorem ag179 : aggB Tryd.prog 179 = some true:=by kernel_rfl
theorem zr179 : zeroS Tryd.prog 179 = some (.agg [.d (.v (.bool false)),.d (.v (.bool false)),.d (.v (.bool false)),.d (.v (.bool false)),.d (.v (.bool false)),.d (.v (.bool false)),.d (.v (.bool false)),.d (.v (.bool false)),.d (.v (.bool false)),.d (.v (.bool false)),.d (.v (.bool false)),.d (.v (.bool false)),.d (.v (.bool false)),.d (.v (.bool false)),.d (.v (.bool false)),.d (.v (.bool false)),.d (.v (.bool false)),.d (.v (.bool false)),.d (.v (.bool false)),.d (.v (.bool false)),.d (.v (.bool false)),.d (.v (.bool false)),.d (.v (.bool false)),.d (.v (.bool false)),.d (.v (.bool false)),.d (.v (.bool false)),.d (.v (.bool false)),.d (.v (.bool false)),.d (.v (.bool false)),.d (.v (.bool false)),.d (.v (.bool false)),.d (.v (.bool false)),.d (.v (.bool false)),.d (.v (.bool false)),.d (.v (.bool false)),.d (.v (.bool false)),.d (.v (.bool false)),.d (.v (.bool false)),.d (.v (.bool false)),.d (.v (.bool false)),.d (.v (.bool false)),.d (.v (.bool false)),.d (.v (.bool false)),.d (.v (.bool false)),.d (.v (.bool false)),.d (.v (.bool false)),.d (.v (.bool false)),.d (.v (.bool false)),.d (.v (.bool false)),.d (.v (.bool false)),.d (.v (.bool false)),.d (.v (.bool false)),.d (.v (.bool false)),.d (.v (.bool false)),.d (.v (.bool false)),.d (.v (.bool false)),.d (.v (.bool false)),.d (.v (.bool false)),.d (.v (.bool false)),.d (.v (.bool false)),.d (.v (.bool false)),.d (.v (.bool false)),.d (.v (.bool false)),.d (.v (.bool false)),.d (.v (.bool false)),.d (.v (.bool false)),.d (.v (.bool false)),.d (.v (.bool false)),.d (.v (.bool false)),.d (.v (.bool false)),.d (.v (.bool false)),.d (.v (.bool false)),.d (.v (.bool false)),.d (.v (.bool false)),.d (.v (.bool false)),.d (.v (.bool false)),.d (.v (.bool false)),.d (.v (.bool false)),.d (.v (.bool false)),.d (.v (.bool false)),.d (.v (.bool false)),.d (.v (.bool false)),.d (.v (.bool false)),.d (.v (.bool false)),.d (.v (.bool false)),.d (.v (.bool false)),.d (.v (.bool false)),.d (.v (.bool false)),.d (.v (.bool false)),.d (.v (.bool false)),.d (.v (.bool false)),.d (.v (.bool false)),.d (.v (.bool false)),.d (.v (.bool false)),.d (.v (.bool false)),.d (.v (.bool false)),.d (.v (.bool false)),.d (.v (.bool false)),.d (.v (.bool false)),.d (.v (.bool false)),.d (.v (.bool false)),.d (.v (.bool false)),.d (.v (.bool false)),.d (.v (.bool false)),.d (.v (.bool false)),.d (.v (.bool false)),.d (.v (.bool false)),.d (.v (.bool false)),.d (.v (.bool false)),.d (.v (.bool false)),.d (.v (.bool false)),.d (.v (.bool false)),.d (.v (.bool false)),.d (.v (.bool false)),.d (.v (.bool false)),.d (.v (.bool false)),.d (.v (.bool false)),.d (.v (.bool false)),.d (.v (.bool false)),.d (.v (.bool false)),.d (.v (.bool false)),.d (.v (.bool false)),.d (.v (.bool false)),.d (.v (.bool false)),.d (.v (.bool false)),.d (.v (.bool false)),.d (.v (.bool false)),.d (.v (.bool false)),.d (.v (.bool false)),.d (.v (.bool false)),.d (.v (.bool false)),.d (.v (.bool false)),.d (.v (.bool false)),.d (.v (.bool false)),.d (.v (.bool false)),.d (.v (.bool false)),.d (.v (.bool false)),.d (.v (.bool false)),.d (.v (.bool false)),.d (.v (.bool false)),.d (.v (.bool false)),.d (.v (.bool false)),.d (.v (.bool false)),.d (.v (.bool false)),.d (.v (.bool false)),.d (.v (.bool false)),.d (.v (.bool false)),.d (.v (.bool false)),.d (.v (.bool false)),.d (.v (.bool false)),.d (.v (.bool false)),.d (.v (.bool false)),.d (.v (.bool false)),.d (.v (.bool false)),.d (.v (.bool false)),.d (.v (.bool false)),.d (.v (.bool false)),.d (.v (.bool false)),.d (.v (.bool false)),.d (.v (.bool false)),.d (.v (.bool false)),.d (.v (.bool false)),.d (.v (.bool false)),.d (.v (.bool false)),.d (.v (.bool false)),.d (.v (.bool false)),.d (.v (.bool false)),.d (.v (.bool false)),.d (.v (.bool false)),.d (.v (.bool false)),.d (.v (.bool false)),.d (.v (.bool false)),.d (.v (.bool false)),.d (.v (.bool false)),.d (.v (.bool false)),.d (.v (.bool false)),.d (.v (.bool false)),.d (.v (.bool false)),.d (.v (.bool false)),.d (.v (.bool false)),.d (.v (.bool false)),.d (.v (.bool false)),.d (.v (.bool false)),.d (.v (.bool false)),.d (.v (.bool false)),.d (.v (.bool false)),.d (.v (.bool false)),.d (.v (.bool false)),.d (.v (.bool false)),.d (.v (.bool false)),.d (.v (.bool false)),.d (.v (.bool false)),.d (.v (.bool false)),.d (.v (.bool false)),.d (.v (.bool false)),.d (.v (.bool false)),.d (.v (.bool false)),.d (.v (.bool false)),.d (.v (.bool false)),.d (.v (.bool false)),.d (.v (.bool false)),.d (.v (.bool false)),.d (.v (.bool false)),.d (.v (.bool false)),.d (.v (.bool false)),.d (.v (.bool false)),.d (.v (.bool false)),.d (.v (.bool false)),.d (.v (.bool false)),.d (.v (.bool false)),.d (.v (.bool false)),.d (.v (.bool false)),.d (.v (.bool false)),.d (.v (.bool false)),.d (.v (.bool false)),.d (.v (.bool false)),.d (.v (.bool false)),.d (.v (.bool false)),.d (.v (.bool false)),.d (.v (.bool false)),.d (.v (.bool false)),.d (.v (.bool false)),.d (.v (.bool false)),.d (.v (.bool false)),.d (.v (.bool false)),.d (.v (.bool false)),.d (.v (.bool false)),.d (.v (.bool false)),.d (.v (.bool false)),.d (.v (.bool false)),.d (.v (.bool false)),.d (.v (.bool false)),.d (.v (.bool false)),.d (.v (.bool false)),.d (.v (.bool false)),.d (.v (.bool false)),.d (.v (.bool false)),.d (.v (.bool false)),.d (.v (.bool false)),.d (.v (.bool false)),.d (.v (.bool false)),.d (.v (.bool false)),.d (.v (.bool false)),.d (.v (.bool false)),.d (.v (.bool false)),.d (.v (.bool false)),.d (.v (.bool false)),.d (.v (.bool false)),.d (.v (.bool false)),.d (.v (.bool false)),.d (.v (.bool false)),.d (.v (.bool false)),.d (.v (.bool false)),.d (.v (.bool false)),.d (.v (.bool false)),.d (.v (.bool false))]):=by kernel_rfl
theorem sz180 : szOf Tryd.prog 180 = some 256:=by kernel_rfl
theorem ag180 : aggB Tryd.prog 180 = some true:=by kernel_rfl
theorem zr180 : zeroS Tryd.prog 180 = some (.agg [.d (.v (.bool false)),.d (.v (.bool false)),.d (.v (.bool false)),.d (.v (.bool false)),.d (.v (.bool false)),.d (.v (.bool false)),.d (.v (.bool false)),.d (.v (.bool false)),.d (.v (.bool false)),.d (.v (.bool false)),.d (.v (.bool false)),.d (.v (.bool false)),.d (.v (.bool false)),.d (.v (.bool false)),.d (.v (.bool false)),.d (.v (.bool false)),.d (.v (.bool false)),.d (.v (.bool false)),.d (.v (.bool false)),.d (.v (.bool false)),.d (.v (.bool false)),.d (.v (.bool false)),.d (.v (.bool false)),.d (.v (.bool false)),.d (.v (.bool false)),.d (.v (.bool false)),.d (.v (.bool false)),.d (.v (.bool false)),.d (.v (.bool false)),.d (.v (.bool false)),.d (.v (.bool false)),.d (.v (.bool false)),.d (.v (.bool false)),.d (.v (.bool false)),.d (.v (.bool false)),.d (.v (.bool false)),.d (.v (.bool false)),.d (.v (.bool false)),.d (.v (.bool false)),.d (.v (.bool false)),.d (.v (.bool false)),.d (.v (.bool false)),.d (.v (.bool false)),.d (.v (.bool false)),.d (.v (.bool false)),.d (.v (.bool false)),.d (.v (.bool false)),.d (.v (.bool false)),.d (.v (.bool false)),.d (.v (.bool false)),.d (.v (.bool false)),.d (.v (.bool false)),.d (.v (.bool false)),.d (.v (.bool false)),.d (.v (.bool false)),.d (.v (.bool false)),.d (.v (.bool false)),.d (.v (.bool false)),.d (.v (.bool false)),.d (.v (.bool false)),.d (.v (.bool false)),.d (.v (.bool false)),.d (.v (.bool false)),.d (.v (.bool false)),.d (.v (.bool false)),.d (.v (.bool false)),.d (.v (.bool false)),.d (.v (.bool false)),.d (.v (.bool false)),.d (.v (.bool false)),.d (.v (.bool false)),.d (.v (.bool false)),.d (.v (.bool false)),.d (.v (.bool false)),.d (.v (.bool false)),.d (.v (.bool false)),.d (.v (.bool false)),.d (.v (.bool false)),.d (.v (.bool false)),.d (.v (.bool false)),.d (.v (.bool false)),.d (.v (.bool false)),.d (.v (.bool false)),.d (.v (.bool false)),.d (.v (.bool false)),.d (.v (.bool false)),.d (.v (.bool false)),.d (.v (.bool false)),.d (.v (.bool false)),.d (.v (.bool false)),.d (.v (.bool false)),.d (.v (.bool false)),.d (.v (.bool false)),.d (.v (.bool false)),.d (.v (.bool false)),.d (.v (.bool false)),.d (.v (.bool false)),.d (.v (.bool false)),.d (.v (.bool false)),.d (.v (.bool false)),.d (.v (.bool false)),.d (.v (.bool false)),.d (.v (.bool false)),.d (.v (.bool false)),.d (.v (.bool false)),.d (.v (.bool false)),.d (.v (.bool false)),.d (.v (.bool false)),.d (.v (.bool false)),.d (.v (.bool false)),.d (.v (.bool false)),.d (.v (.bool false)),.d (.v (.bool false)),.d (.v (.bool false)),.d (.v (.bool false)),.d (.v (.bool false)),.d (.v (.bool false)),.d (.v (.bool false)),.d (.v (.bool false)),.d (.v (.bool false)),.d (.v (.bool false)),.d (.v (.bool false)),.d (.v (.bool false)),.d (.v (.bool false)),.d (.v (.bool false)),.d (.v (.bool false)),.d (.v (.bool false)),.d (.v (.bool false)),.d (.v (.bool false)),.d (.v (.bool false)),.d (.v (.bool false)),.d (.v (.bool false)),.d (.v (.bool false)),.d (.v (.bool false)),.d (.v (.bool false)),.d (.v (.bool false)),.d (.v (.bool false)),.d (.v (.bool false)),.d (.v (.bool false)),.d (.v (.bool false)),.d (.v (.bool false)),.d (.v (.bool false)),.d (.v (.bool false)),.d (.v (.bool false)),.d (.v (.bool false)),.d (.v (.bool false)),.d (.v (.bool false)),.d (.v (.bool false)),.d (.v (.bool false)),.d (.v (.bool false)),.d (.v (.bool false)),.d (.v (.bool false)),.d (.v (.bool false)),.d (.v (.bool false)),.d (.v (.bool false)),.d (.v (.bool false)),.d (.v (.bool false)),.d (.v (.bool false)),.d (.v (.bool false)),.d (.v (.bool false)),.d (.v (.bool false)),.d (.v (.bool false)),.d (.v (.bool false)),.d (.v (.bool false)),.d (.v (.bool false)),.d (.v (.bool false)),.d (.v (.bool false)),.d (.v (.bool false)),.d (.v (.bool false)),.d (.v (.bool false)),.d (.v (.bool false)),.d (.v (.bool false)),.d (.v (.bool false)),.d (.v (.bool false)),.d (.v (.bool false)),.d (.v (.bool false)),.d (.v (.bool false)),.d (.v (.bool false)),.d (.v (.bool false)),.d (.v (.bool false)),.d (.v (.bool false)),.d (.v (.bool false)),.d (.v (.bool false)),.d (.v (.bool false)),.d (.v (.bool false)),.d (.v (.bool false)),.d (.v (.bool false)),.d (.v (.bool false)),.d (.v (.bool false)),.d (.v (.bool false)),.d (.v (.bool false)),.d (.v (.bool false)),.d (.v (.bool false)),.d (.v (.bool false)),.d (.v (.bool false)),.d (.v (.bool false)),.d (.v (.bool false)),.d (.v (.bool false)),.d (.v (.bool false)),.d (.v (.bool false)),.d (.v (.bool false)),.d (.v (.bool false)),.d (.v (.bool false)),.d (.v (.bool false)),.d (.v (.bool false)),.d (.v (.bool false)),.d (.v (.bool false)),.d (.v (.bool false)),.d (.v (.bool false)),.d (.v (.bool false)),.d (.v (.bool false)),.d (.v (.bool false)),.d (.v (.bool false)),.d (.v (.bool false)),.d (.v (.bool false)),.d (.v (.bool false)),.d (.v (.bool false)),.d (.v (.bool false)),.d (.v (.bool false)),.d (.v (.bool false)),.d (.v (.bool false)),.d (.v (.bool false)),.d (.v (.bool false)),.d (.v (.bool false)),.d (.v (.bool false)),.d (.v (.bool false)),.d (.v (.bool false)),.d (.v (.bool false)),.d (.v (.bool false)),.d (.v (.bool false)),.d (.v (.bool false)),.d (.v (.bool false)),.d (.v (.bool false)),.d (.v (.bool false)),.d (.v (.bool false)),.d (.v (.bool false)),.d (.v (.bool false)),.d (.v (.bool false)),.d (.v (.bool false)),.d (.v (.bool false)),.d (.v (.bool false)),.d (.v (.bool false)),.d (.v (.bool false)),.d (.v (.bool false)),.d (.v (.bool false)),.d (.v (.bool false)),.d (.v (.bool false)),.d (.v (.bool false)),.d (.v (.bool false)),.d (.v (.bool false)),.d (.v (.bool false)),.d (.v (.bool false)),.d (.v (.bool false)),.d (.v (.bool false)),.d (.v (.bool false)),.d (.v (.bool false))]):=by kernel_rfl
theorem sz181 : szOf Tryd.prog 181 = some 1:=by kernel_rfl
theorem ag181 : aggB Tryd.prog 181 = some false:=by kernel_rfl
-- no zero of 181: tuple tuple 2 agg 256 bool 0 bool 0
theorem sz184 : szOf Tryd.prog 184 = some 1:=by kernel_rfl
theorem ag184 : aggB Tryd.prog 184 = some false:=by kernel_rfl
theorem zr184 : zeroS Tryd.prog 184 = some (.d (.v (.pointer none))):=by kernel_rfl
open And renaming intro → ai
theorem TAS : tyOf (ai sz2 (ai ag2 (ai zr2 (ai un2 (ai sz3 (ai ag3 (ai zr3 (ai un3 (ai sz4 (ai ag4 (ai zr4 (ai sz5 (ai ag5 (ai zr5 (ai un5 (ai sz9 (ai ag9 (ai zr9 (ai un9 (ai sz22 (ai ag22 (ai zr22 (ai el22 (ai un22 (ai by22 (ai ez22 (ai sz23 (ai ag23 (ai zr23 (ai el23 (ai un23 (ai by23 (ai ez23 (ai sz24 (ai ag24 (ai zr24 (ai pl24 (ai fl24_0 (ai pt24_0 (ai fl24_1 (ai pt24_1 (ai fl24_2 (ai pt24_2 (ai fl24_3 (ai pt24_3 (ai fl24_4 (ai pt24_4 (ai sz25 (ai ag25 (ai zr25 (ai pl25 (ai fl25_0 (ai pt25_0 (ai fl25_1 (ai pt25_1 (ai fl25_2 (ai pt25_2 (ai fl25_3 (ai pt25_3 (ai fl25_4 (ai pt25_4 (ai sz26 (ai ag26 (ai zr26 (ai el26 (ai un26 (ai by26 (ai ez26 (ai sz27 (ai ag27 (ai zr27 (ai un27 (ai sz28 (ai ag28 (ai sz30 (ai ag30 (ai sz32 (ai ag32 (ai sz39 (ai ag39 (ai sz50 (ai ag50 (ai zr50 (ai el50 (ai un50 (ai by50 (ai ez50 (ai sz71 (ai ag71 (ai zr71 (ai pl71 (ai fl71_0 (ai pt71_0 (ai sz72 (ai ag72 (ai zr72 (ai pl72 (ai fl72_0 (ai pt72_0 (ai sz74 (ai ag74 (ai zr74 (ai sz81 (ai ag81 (ai zr81 (ai pl81 (ai fl81_0 (ai pt81_0 (ai fl81_1 (ai pt81_1 (ai fl81_2 (ai pt81_2 (ai fl81_3 (ai pt81_3 (ai sz82 (ai ag82 (ai zr82 (ai pl82 (ai fl82_0 (ai pt82_0 (ai fl82_1 (ai pt82_1 (ai fl82_2 (ai pt82_2 (ai fl82_3 (ai pt82_3 (ai sz87 (ai ag87 (ai sz90 (ai ag90 (ai zr90 (ai pl90 (ai fl90_0 (ai pt90_0 (ai fl90_1 (ai pt90_1 (ai sz91 (ai ag91 (ai zr91 (ai un91 (ai mo91 (ai sz92 (ai ag92 (ai zr92 (ai el92 (ai un92 (ai by92 (ai ez92 (ai sz93 (ai ag93 (ai sz96 (ai ag96 (ai zr96 (ai pl96 (ai fl96_0 (ai pt96_0 (ai fl96_1 (ai pt96_1 (ai sz97 (ai ag97 (ai zr97 (ai pl97 (ai fl97_0 (ai pt97_0 (ai fl97_1 (ai pt97_1 (ai sz107 (ai ag107 (ai sz113 (ai ag113 (ai zr113 (ai un113 (ai mo113 (ai sz114 (ai ag114 (ai sz116 (ai ag116 (ai zr116 (ai pl116 (ai fl116_0 (ai pt116_0 (ai fl116_1 (ai pt116_1 (ai sz117 (ai ag117 (ai zr117 (ai pl117 (ai fl117_0 (ai pt117_0 (ai fl117_1 (ai pt117_1 (ai sz118 (ai ag118 (ai zr118 (ai el118 (ai un118 (ai by118 (ai ez118 (ai sz127 (ai ag127 (ai zr127 (ai pl127 (ai fl127_0 (ai pt127_0 (ai fl127_1 (ai pt127_1 (ai fl127_2 (ai pt127_2 (ai sz128 (ai ag128 (ai zr128 (ai pl128 (ai fl128_0 (ai pt128_0 (ai fl128_1 (ai pt128_1 (ai fl128_2 (ai pt128_2 (ai sz129 (ai ag129 (ai zr129 (ai un129 (ai mo129 (ai sz130 (ai ag130 (ai zr130 (ai pl130 (ai fl130_0 (ai pt130_0 (ai fl130_1 (ai pt130_1 (ai sz131 (ai ag131 (ai zr131 (ai pl131 (ai fl131_0 (ai pt131_0 (ai fl131_1 (ai pt131_1 (ai sz132 (ai ag132 (ai zr132 (ai el132 (ai un132 (ai by132 (ai ez132 (ai sz133 (ai ag133 (ai zr133 (ai el133 (ai un133 (ai by133 (ai ez133 (ai sz134 (ai ag134 (ai sz136 (ai ag136 (ai zr136 (ai pl136 (ai fl136_0 (ai pt136_0 (ai fl136_1 (ai pt136_1 (ai sz137 (ai ag137 (ai zr137 (ai pl137 (ai fl137_0 (ai pt137_0 (ai fl137_1 (ai pt137_1 (ai sz142 (ai ag142 (ai zr142 (ai un142 (ai mo142 (ai sz147 (ai ag147 (ai sz165 (ai ag165 (ai zr165 (ai el165 (ai un165 (ai by165 (ai ez165 (ai sz177 (ai ag177 (ai zr177 (ai un177 (ai sz179 (ai ag179 (ai zr179 (ai sz180 (ai ag180 (ai zr180 (ai sz181 (ai ag181 (ai sz184 (ai ag184 zr184))))))))))))))))))))))))))))))))))))))))))))))))))))))))))))))))))))))))))))))))))))))))))))))))))))))))))))))))))))))))))))))))))))))))))))))))))))))))))))))))))))))))))))))))))))))))))))))))))))))))))))))))))))))))))))))))))))))))))))))))))))))))))))))))))))))))))))))))))))))))))))))))))))))))))) := tyOk _
theorem WA : tyOf (And.intro UN (And.intro LM (TAS))):=tyOk _
end Go.Proofs.YtgecnlcbdbaneaaDoor
