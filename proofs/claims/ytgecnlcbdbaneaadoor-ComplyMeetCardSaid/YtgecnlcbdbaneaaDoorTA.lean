/- Facts on the types that the walks meet: sizes, zeros, fields, elements. -/
import Derived.Test.YtgecnlcbdbaneaaDoorSwB
import Derived.Test.YtgecnlcbdbaneaaDoorSwD
import Derived.Test.YtgecnlcbdbaneaaDoorProg
set_option linter.unusedVariables false
set_option maxRecDepth 100000
namespace Go.Proofs.YtgecnlcbdbaneaaDoor
open Go.Sw

theorem sz2 : qg9 Tryd.prog 2 = some 1:=by kernel_rfl
theorem ag2 : qi4 Tryd.prog 2 = some false:=by kernel_rfl
theorem zr2 : qe2 Tryd.prog 2 = some (.d (.v (.int .i64 0))):=by kernel_rfl
theorem un2 : Tryd.prog.underlying 2 = some (.int .i64):=by kernel_rfl
theorem sz3 : qg9 Tryd.prog 3 = some 1:=by kernel_rfl
theorem ag3 : qi4 Tryd.prog 3 = some false:=by kernel_rfl
theorem zr3 : qe2 Tryd.prog 3 = some (.d (.v (.int .i64 0))):=by kernel_rfl
theorem un3 : Tryd.prog.underlying 3 = some (.int .i64):=by kernel_rfl
theorem sz4 : qg9 Tryd.prog 4 = some 1:=by kernel_rfl
theorem ag4 : qi4 Tryd.prog 4 = some false:=by kernel_rfl
theorem zr4 : qe2 Tryd.prog 4 = some (.d (.v (.bool false))):=by kernel_rfl
theorem sz5 : qg9 Tryd.prog 5 = some 1:=by kernel_rfl
theorem ag5 : qi4 Tryd.prog 5 = some false:=by kernel_rfl
theorem zr5 : qe2 Tryd.prog 5 = some (.d (.v (.int .u8 0))):=by kernel_rfl
theorem un5 : Tryd.prog.underlying 5 = some (.int .u8):=by kernel_rfl
theorem sz9 : qg9 Tryd.prog 9 = some 1:=by kernel_rfl
theorem ag9 : qi4 Tryd.prog 9 = some false:=by kernel_rfl
theorem zr9 : qe2 Tryd.prog 9 = some (.d (.v (.string ⟨#[]⟩))):=by kernel_rfl
theorem un9 : Tryd.prog.underlying 9 = some .string:=by kernel_rfl
theorem sz22 : qg9 Tryd.prog 22 = some 1:=by kernel_rfl
theorem ag22 : qi4 Tryd.prog 22 = some false:=by kernel_rfl
theorem zr22 : qe2 Tryd.prog 22 = some (.nil):=by kernel_rfl
theorem el22 : qj9 Tryd.prog 22 = some 1:=by kernel_rfl
theorem un22 : Tryd.prog.underlying 22 = some (.slice 9):=by kernel_rfl
theorem by22 : qo1 Tryd.prog 22 = some 16:=by kernel_rfl
theorem ez22 : qp8 Tryd.prog 22 = true:=by kernel_rfl
theorem sz23 : qg9 Tryd.prog 23 = some 1:=by kernel_rfl
theorem ag23 : qi4 Tryd.prog 23 = some false:=by kernel_rfl
theorem zr23 : qe2 Tryd.prog 23 = some (.nil):=by kernel_rfl
theorem el23 : qj9 Tryd.prog 23 = some 5:=by kernel_rfl
theorem un23 : Tryd.prog.underlying 23 = some (.slice 25):=by kernel_rfl
theorem by23 : qo1 Tryd.prog 23 = some 80:=by kernel_rfl
theorem ez23 : qp8 Tryd.prog 23 = true:=by kernel_rfl
theorem sz24 : qg9 Tryd.prog 24 = some 5:=by kernel_rfl
theorem ag24 : qi4 Tryd.prog 24 = some true:=by kernel_rfl
theorem zr24 : qe2 Tryd.prog 24 = some (.agg [.d (.v (.int .i64 0)),.d (.v (.int .i64 0)),.d (.v (.string ⟨#[]⟩)),.nil,.nil]):=by kernel_rfl
theorem pl24 : vn8 Tryd.prog 24 = some [(0,1),(1,1),(2,1),(3,1),(4,1)]:=by kernel_rfl
theorem fl24_0 : qf0 Tryd.prog 24 0 = some (0,1):=by kernel_rfl
theorem pt24_0 : partOf Tryd.prog 24 0 = some (0,1):=by kernel_rfl
theorem fl24_1 : qf0 Tryd.prog 24 1 = some (1,1):=by kernel_rfl
theorem pt24_1 : partOf Tryd.prog 24 1 = some (1,1):=by kernel_rfl
theorem fl24_2 : qf0 Tryd.prog 24 2 = some (2,1):=by kernel_rfl
theorem pt24_2 : partOf Tryd.prog 24 2 = some (2,1):=by kernel_rfl
theorem fl24_3 : qf0 Tryd.prog 24 3 = some (3,1):=by kernel_rfl
theorem pt24_3 : partOf Tryd.prog 24 3 = some (3,1):=by kernel_rfl
theorem fl24_4 : qf0 Tryd.prog 24 4 = some (4,1):=by kernel_rfl
theorem pt24_4 : partOf Tryd.prog 24 4 = some (4,1):=by kernel_rfl
theorem sz25 : qg9 Tryd.prog 25 = some 5:=by kernel_rfl
theorem ag25 : qi4 Tryd.prog 25 = some true:=by kernel_rfl
theorem zr25 : qe2 Tryd.prog 25 = some (.agg [.d (.v (.int .i64 0)),.d (.v (.int .i64 0)),.d (.v (.string ⟨#[]⟩)),.nil,.nil]):=by kernel_rfl
theorem pl25 : vn8 Tryd.prog 25 = some [(0,1),(1,1),(2,1),(3,1),(4,1)]:=by kernel_rfl
theorem fl25_0 : qf0 Tryd.prog 25 0 = some (0,1):=by kernel_rfl
theorem pt25_0 : partOf Tryd.prog 25 0 = some (0,1):=by kernel_rfl
theorem fl25_1 : qf0 Tryd.prog 25 1 = some (1,1):=by kernel_rfl
theorem pt25_1 : partOf Tryd.prog 25 1 = some (1,1):=by kernel_rfl
theorem fl25_2 : qf0 Tryd.prog 25 2 = some (2,1):=by kernel_rfl
theorem pt25_2 : partOf Tryd.prog 25 2 = some (2,1):=by kernel_rfl
theorem fl25_3 : qf0 Tryd.prog 25 3 = some (3,1):=by kernel_rfl
theorem pt25_3 : partOf Tryd.prog 25 3 = some (3,1):=by kernel_rfl
theorem fl25_4 : qf0 Tryd.prog 25 4 = some (4,1):=by kernel_rfl
theorem pt25_4 : partOf Tryd.prog 25 4 = some (4,1):=by kernel_rfl
theorem sz26 : qg9 Tryd.prog 26 = some 1:=by kernel_rfl
theorem ag26 : qi4 Tryd.prog 26 = some false:=by kernel_rfl
theorem zr26 : qe2 Tryd.prog 26 = some (.nil):=by kernel_rfl
theorem el26 : qj9 Tryd.prog 26 = some 4:=by kernel_rfl
theorem un26 : Tryd.prog.underlying 26 = some (.slice 82):=by kernel_rfl
theorem by26 : qo1 Tryd.prog 26 = some 64:=by kernel_rfl
theorem ez26 : qp8 Tryd.prog 26 = true:=by kernel_rfl
theorem sz27 : qg9 Tryd.prog 27 = some 1:=by kernel_rfl
theorem ag27 : qi4 Tryd.prog 27 = some false:=by kernel_rfl
theorem zr27 : qe2 Tryd.prog 27 = some (.d (.v (.int .i64 0))):=by kernel_rfl
theorem un27 : Tryd.prog.underlying 27 = some (.int .i64):=by kernel_rfl
theorem sz28 : qg9 Tryd.prog 28 = some 1:=by kernel_rfl
theorem ag28 : qi4 Tryd.prog 28 = some false:=by kernel_rfl
-- no zero of 28: tuple tuple 2 slice - 0 0 int i64
theorem sz30 : qg9 Tryd.prog 30 = some 1:=by kernel_rfl
theorem ag30 : qi4 Tryd.prog 30 = some false:=by kernel_rfl
-- no zero of 30: tuple tuple 2 agg 5 int i64 0 int
theorem sz32 : qg9 Tryd.prog 32 = some 1:=by kernel_rfl
theorem ag32 : qi4 Tryd.prog 32 = some false:=by kernel_rfl
-- no zero of 32: tuple tuple 2 bool 0 int i64 0 0
theorem sz39 : qg9 Tryd.prog 39 = some 1:=by kernel_rfl
theorem ag39 : qi4 Tryd.prog 39 = some false:=by kernel_rfl
-- no zero of 39: tuple tuple 2 slice - 0 0 int i64
theorem sz50 : qg9 Tryd.prog 50 = some 1:=by kernel_rfl
theorem ag50 : qi4 Tryd.prog 50 = some false:=by kernel_rfl
theorem zr50 : qe2 Tryd.prog 50 = some (.nil):=by kernel_rfl
theorem el50 : qj9 Tryd.prog 50 = some 1:=by kernel_rfl
theorem un50 : Tryd.prog.underlying 50 = some (.slice 3):=by kernel_rfl
theorem by50 : qo1 Tryd.prog 50 = some 8:=by kernel_rfl
theorem ez50 : qp8 Tryd.prog 50 = true:=by kernel_rfl
theorem sz71 : qg9 Tryd.prog 71 = some 1:=by kernel_rfl
theorem ag71 : qi4 Tryd.prog 71 = some true:=by kernel_rfl
theorem zr71 : qe2 Tryd.prog 71 = some (.agg [.nil]):=by kernel_rfl
theorem pl71 : vn8 Tryd.prog 71 = some [(0,1)]:=by kernel_rfl
theorem fl71_0 : qf0 Tryd.prog 71 0 = some (0,1):=by kernel_rfl
theorem pt71_0 : partOf Tryd.prog 71 0 = some (0,1):=by kernel_rfl
theorem sz72 : qg9 Tryd.prog 72 = some 1:=by kernel_rfl
theorem ag72 : qi4 Tryd.prog 72 = some true:=by kernel_rfl
theorem zr72 : qe2 Tryd.prog 72 = some (.agg [.nil]):=by kernel_rfl
theorem pl72 : vn8 Tryd.prog 72 = some [(0,1)]:=by kernel_rfl
theorem fl72_0 : qf0 Tryd.prog 72 0 = some (0,1):=by kernel_rfl
theorem pt72_0 : partOf Tryd.prog 72 0 = some (0,1):=by kernel_rfl
theorem sz74 : qg9 Tryd.prog 74 = some 1:=by kernel_rfl
theorem ag74 : qi4 Tryd.prog 74 = some false:=by kernel_rfl
theorem zr74 : qe2 Tryd.prog 74 = some (.d (.v .nilFunc)):=by kernel_rfl
theorem sz81 : qg9 Tryd.prog 81 = some 4:=by kernel_rfl
theorem ag81 : qi4 Tryd.prog 81 = some true:=by kernel_rfl
theorem zr81 : qe2 Tryd.prog 81 = some (.agg [.d (.v (.int .i64 0)),.d (.v (.int .i64 0)),.nil,.nil]):=by kernel_rfl
theorem pl81 : vn8 Tryd.prog 81 = some [(0,1),(1,1),(2,1),(3,1)]:=by kernel_rfl
theorem fl81_0 : qf0 Tryd.prog 81 0 = some (0,1):=by kernel_rfl
theorem pt81_0 : partOf Tryd.prog 81 0 = some (0,1):=by kernel_rfl
theorem fl81_1 : qf0 Tryd.prog 81 1 = some (1,1):=by kernel_rfl
theorem pt81_1 : partOf Tryd.prog 81 1 = some (1,1):=by kernel_rfl
theorem fl81_2 : qf0 Tryd.prog 81 2 = some (2,1):=by kernel_rfl
theorem pt81_2 : partOf Tryd.prog 81 2 = some (2,1):=by kernel_rfl
theorem fl81_3 : qf0 Tryd.prog 81 3 = some (3,1):=by kernel_rfl
theorem pt81_3 : partOf Tryd.prog 81 3 = some (3,1):=by kernel_rfl
theorem sz82 : qg9 Tryd.prog 82 = some 4:=by kernel_rfl
theorem ag82 : qi4 Tryd.prog 82 = some true:=by kernel_rfl
theorem zr82 : qe2 Tryd.prog 82 = some (.agg [.d (.v (.int .i64 0)),.d (.v (.int .i64 0)),.nil,.nil]):=by kernel_rfl
theorem pl82 : vn8 Tryd.prog 82 = some [(0,1),(1,1),(2,1),(3,1)]:=by kernel_rfl
theorem fl82_0 : qf0 Tryd.prog 82 0 = some (0,1):=by kernel_rfl
theorem pt82_0 : partOf Tryd.prog 82 0 = some (0,1):=by kernel_rfl
theorem fl82_1 : qf0 Tryd.prog 82 1 = some (1,1):=by kernel_rfl
theorem pt82_1 : partOf Tryd.prog 82 1 = some (1,1):=by kernel_rfl
theorem fl82_2 : qf0 Tryd.prog 82 2 = some (2,1):=by kernel_rfl
theorem pt82_2 : partOf Tryd.prog 82 2 = some (2,1):=by kernel_rfl
theorem fl82_3 : qf0 Tryd.prog 82 3 = some (3,1):=by kernel_rfl
theorem pt82_3 : partOf Tryd.prog 82 3 = some (3,1):=by kernel_rfl
theorem sz87 : qg9 Tryd.prog 87 = some 1:=by kernel_rfl
theorem ag87 : qi4 Tryd.prog 87 = some false:=by kernel_rfl
-- no zero of 87: tuple tuple 2 slice - 0 0 bool 0
theorem sz90 : qg9 Tryd.prog 90 = some 2:=by kernel_rfl
theorem ag90 : qi4 Tryd.prog 90 = some true:=by kernel_rfl
theorem zr90 : qe2 Tryd.prog 90 = some (.agg [.d (.v (.int .i64 0)),.d (.v (.int .i64 0))]):=by kernel_rfl
theorem pl90 : vn8 Tryd.prog 90 = some [(0,1),(1,1)]:=by kernel_rfl
theorem fl90_0 : qf0 Tryd.prog 90 0 = some (0,1):=by kernel_rfl
theorem pt90_0 : partOf Tryd.prog 90 0 = some (0,1):=by kernel_rfl
theorem fl90_1 : qf0 Tryd.prog 90 1 = some (1,1):=by kernel_rfl
theorem pt90_1 : partOf Tryd.prog 90 1 = some (1,1):=by kernel_rfl
theorem sz91 : qg9 Tryd.prog 91 = some 1:=by kernel_rfl
theorem ag91 : qi4 Tryd.prog 91 = some false:=by kernel_rfl
theorem zr91 : qe2 Tryd.prog 91 = some (.d (.v (.map none))):=by kernel_rfl
theorem un91 : Tryd.prog.underlying 91 = some (.map 90 3):=by kernel_rfl
theorem mo91 : mapOf Tryd.prog 91 = some (90,(.int .i64 0)):=by kernel_rfl
theorem sz92 : qg9 Tryd.prog 92 = some 1:=by kernel_rfl
theorem ag92 : qi4 Tryd.prog 92 = some false:=by kernel_rfl
theorem zr92 : qe2 Tryd.prog 92 = some (.nil):=by kernel_rfl
theorem el92 : qj9 Tryd.prog 92 = some 2:=by kernel_rfl
theorem un92 : Tryd.prog.underlying 92 = some (.slice 90):=by kernel_rfl
theorem by92 : qo1 Tryd.prog 92 = some 16:=by kernel_rfl
theorem ez92 : qp8 Tryd.prog 92 = true:=by kernel_rfl
theorem sz93 : qg9 Tryd.prog 93 = some 1:=by kernel_rfl
theorem ag93 : qi4 Tryd.prog 93 = some false:=by kernel_rfl
-- no zero of 93: tuple tuple 3 slice - 0 0 slice -
theorem sz96 : qg9 Tryd.prog 96 = some 2:=by kernel_rfl
theorem ag96 : qi4 Tryd.prog 96 = some true:=by kernel_rfl
theorem zr96 : qe2 Tryd.prog 96 = some (.agg [.nil,.nil]):=by kernel_rfl
theorem pl96 : vn8 Tryd.prog 96 = some [(0,1),(1,1)]:=by kernel_rfl
theorem fl96_0 : qf0 Tryd.prog 96 0 = some (0,1):=by kernel_rfl
theorem pt96_0 : partOf Tryd.prog 96 0 = some (0,1):=by kernel_rfl
theorem fl96_1 : qf0 Tryd.prog 96 1 = some (1,1):=by kernel_rfl
theorem pt96_1 : partOf Tryd.prog 96 1 = some (1,1):=by kernel_rfl
theorem sz97 : qg9 Tryd.prog 97 = some 2:=by kernel_rfl
theorem ag97 : qi4 Tryd.prog 97 = some true:=by kernel_rfl
theorem zr97 : qe2 Tryd.prog 97 = some (.agg [.nil,.nil]):=by kernel_rfl
theorem pl97 : vn8 Tryd.prog 97 = some [(0,1),(1,1)]:=by kernel_rfl
theorem fl97_0 : qf0 Tryd.prog 97 0 = some (0,1):=by kernel_rfl
theorem pt97_0 : partOf Tryd.prog 97 0 = some (0,1):=by kernel_rfl
theorem fl97_1 : qf0 Tryd.prog 97 1 = some (1,1):=by kernel_rfl
theorem pt97_1 : partOf Tryd.prog 97 1 = some (1,1):=by kernel_rfl
theorem sz107 : qg9 Tryd.prog 107 = some 1:=by kernel_rfl
theorem ag107 : qi4 Tryd.prog 107 = some false:=by kernel_rfl
-- no zero of 107: tuple tuple 2 agg 2 slice - 0 0
theorem sz113 : qg9 Tryd.prog 113 = some 1:=by kernel_rfl
theorem ag113 : qi4 Tryd.prog 113 = some false:=by kernel_rfl
theorem zr113 : qe2 Tryd.prog 113 = some (.d (.v (.map none))):=by kernel_rfl
theorem un113 : Tryd.prog.underlying 113 = some (.map 3 3):=by kernel_rfl
theorem mo113 : mapOf Tryd.prog 113 = some (3,(.int .i64 0)):=by kernel_rfl
theorem sz114 : qg9 Tryd.prog 114 = some 1:=by kernel_rfl
theorem ag114 : qi4 Tryd.prog 114 = some false:=by kernel_rfl
-- no zero of 114: tuple tuple 2 int i64 0 bool 0 0
theorem sz116 : qg9 Tryd.prog 116 = some 3:=by kernel_rfl
theorem ag116 : qi4 Tryd.prog 116 = some true:=by kernel_rfl
theorem zr116 : qe2 Tryd.prog 116 = some (.agg [.d (.v (.int .i64 0)),.d (.v (.int .i64 0)),.nil]):=by kernel_rfl
theorem pl116 : vn8 Tryd.prog 116 = some [(0,2),(2,1)]:=by kernel_rfl
theorem fl116_0 : qf0 Tryd.prog 116 0 = some (0,2):=by kernel_rfl
theorem pt116_0 : partOf Tryd.prog 116 0 = some (0,2):=by kernel_rfl
theorem fl116_1 : qf0 Tryd.prog 116 1 = some (2,1):=by kernel_rfl
theorem pt116_1 : partOf Tryd.prog 116 1 = some (2,1):=by kernel_rfl
theorem sz117 : qg9 Tryd.prog 117 = some 3:=by kernel_rfl
theorem ag117 : qi4 Tryd.prog 117 = some true:=by kernel_rfl
theorem zr117 : qe2 Tryd.prog 117 = some (.agg [.d (.v (.int .i64 0)),.d (.v (.int .i64 0)),.nil]):=by kernel_rfl
theorem pl117 : vn8 Tryd.prog 117 = some [(0,2),(2,1)]:=by kernel_rfl
theorem fl117_0 : qf0 Tryd.prog 117 0 = some (0,2):=by kernel_rfl
theorem pt117_0 : partOf Tryd.prog 117 0 = some (0,2):=by kernel_rfl
theorem fl117_1 : qf0 Tryd.prog 117 1 = some (2,1):=by kernel_rfl
theorem pt117_1 : partOf Tryd.prog 117 1 = some (2,1):=by kernel_rfl
theorem sz118 : qg9 Tryd.prog 118 = some 1:=by kernel_rfl
theorem ag118 : qi4 Tryd.prog 118 = some false:=by kernel_rfl
theorem zr118 : qe2 Tryd.prog 118 = some (.nil):=by kernel_rfl
theorem el118 : qj9 Tryd.prog 118 = some 3:=by kernel_rfl
theorem un118 : Tryd.prog.underlying 118 = some (.slice 117):=by kernel_rfl
theorem by118 : qo1 Tryd.prog 118 = some 40:=by kernel_rfl
theorem ez118 : qp8 Tryd.prog 118 = true:=by kernel_rfl
theorem sz127 : qg9 Tryd.prog 127 = some 3:=by kernel_rfl
theorem ag127 : qi4 Tryd.prog 127 = some true:=by kernel_rfl
theorem zr127 : qe2 Tryd.prog 127 = some (.agg [.d (.v (.int .i64 0)),.d (.v (.int .i64 0)),.d (.v (.bool false))]):=by kernel_rfl
theorem pl127 : vn8 Tryd.prog 127 = some [(0,1),(1,1),(2,1)]:=by kernel_rfl
theorem fl127_0 : qf0 Tryd.prog 127 0 = some (0,1):=by kernel_rfl
theorem pt127_0 : partOf Tryd.prog 127 0 = some (0,1):=by kernel_rfl
theorem fl127_1 : qf0 Tryd.prog 127 1 = some (1,1):=by kernel_rfl
theorem pt127_1 : partOf Tryd.prog 127 1 = some (1,1):=by kernel_rfl
theorem fl127_2 : qf0 Tryd.prog 127 2 = some (2,1):=by kernel_rfl
theorem pt127_2 : partOf Tryd.prog 127 2 = some (2,1):=by kernel_rfl
theorem sz128 : qg9 Tryd.prog 128 = some 3:=by kernel_rfl
theorem ag128 : qi4 Tryd.prog 128 = some true:=by kernel_rfl
theorem zr128 : qe2 Tryd.prog 128 = some (.agg [.d (.v (.int .i64 0)),.d (.v (.int .i64 0)),.d (.v (.bool false))]):=by kernel_rfl
theorem pl128 : vn8 Tryd.prog 128 = some [(0,1),(1,1),(2,1)]:=by kernel_rfl
theorem fl128_0 : qf0 Tryd.prog 128 0 = some (0,1):=by kernel_rfl
theorem pt128_0 : partOf Tryd.prog 128 0 = some (0,1):=by kernel_rfl
theorem fl128_1 : qf0 Tryd.prog 128 1 = some (1,1):=by kernel_rfl
theorem pt128_1 : partOf Tryd.prog 128 1 = some (1,1):=by kernel_rfl
theorem fl128_2 : qf0 Tryd.prog 128 2 = some (2,1):=by kernel_rfl
theorem pt128_2 : partOf Tryd.prog 128 2 = some (2,1):=by kernel_rfl
theorem sz129 : qg9 Tryd.prog 129 = some 1:=by kernel_rfl
theorem ag129 : qi4 Tryd.prog 129 = some false:=by kernel_rfl
theorem zr129 : qe2 Tryd.prog 129 = some (.d (.v (.map none))):=by kernel_rfl
theorem un129 : Tryd.prog.underlying 129 = some (.map 128 3):=by kernel_rfl
theorem mo129 : mapOf Tryd.prog 129 = some (128,(.int .i64 0)):=by kernel_rfl
theorem sz130 : qg9 Tryd.prog 130 = some 4:=by kernel_rfl
theorem ag130 : qi4 Tryd.prog 130 = some true:=by kernel_rfl
theorem zr130 : qe2 Tryd.prog 130 = some (.agg [.d (.v (.int .i64 0)),.d (.v (.int .i64 0)),.d (.v (.bool false)),.nil]):=by kernel_rfl
theorem pl130 : vn8 Tryd.prog 130 = some [(0,3),(3,1)]:=by kernel_rfl
theorem fl130_0 : qf0 Tryd.prog 130 0 = some (0,3):=by kernel_rfl
theorem yz7 : partOf Tryd.prog 130 0 = some (0,3):=by kernel_rfl
theorem fl130_1 : qf0 Tryd.prog 130 1 = some (3,1):=by kernel_rfl
theorem pt130_1 : partOf Tryd.prog 130 1 = some (3,1):=by kernel_rfl
theorem sz131 : qg9 Tryd.prog 131 = some 4:=by kernel_rfl
theorem ag131 : qi4 Tryd.prog 131 = some true:=by kernel_rfl
theorem zr131 : qe2 Tryd.prog 131 = some (.agg [.d (.v (.int .i64 0)),.d (.v (.int .i64 0)),.d (.v (.bool false)),.nil]):=by kernel_rfl
theorem pl131 : vn8 Tryd.prog 131 = some [(0,3),(3,1)]:=by kernel_rfl
theorem fl131_0 : qf0 Tryd.prog 131 0 = some (0,3):=by kernel_rfl
theorem pt131_0 : partOf Tryd.prog 131 0 = some (0,3):=by kernel_rfl
theorem yz4 : qf0 Tryd.prog 131 1 = some (3,1):=by kernel_rfl
theorem pt131_1 : partOf Tryd.prog 131 1 = some (3,1):=by kernel_rfl
theorem sz132 : qg9 Tryd.prog 132 = some 1:=by kernel_rfl
theorem ag132 : qi4 Tryd.prog 132 = some false:=by kernel_rfl
theorem zr132 : qe2 Tryd.prog 132 = some (.nil):=by kernel_rfl
theorem el132 : qj9 Tryd.prog 132 = some 4:=by kernel_rfl
theorem un132 : Tryd.prog.underlying 132 = some (.slice 131):=by kernel_rfl
theorem by132 : qo1 Tryd.prog 132 = some 48:=by kernel_rfl
theorem ez132 : qp8 Tryd.prog 132 = true:=by kernel_rfl
theorem sz133 : qg9 Tryd.prog 133 = some 1:=by kernel_rfl
theorem ag133 : qi4 Tryd.prog 133 = some false:=by kernel_rfl
theorem zr133 : qe2 Tryd.prog 133 = some (.nil):=by kernel_rfl
theorem el133 : qj9 Tryd.prog 133 = some 4:=by kernel_rfl
theorem un133 : Tryd.prog.underlying 133 = some (.slice 137):=by kernel_rfl
theorem by133 : qo1 Tryd.prog 133 = some 40:=by kernel_rfl
theorem ez133 : qp8 Tryd.prog 133 = true:=by kernel_rfl
theorem sz134 : qg9 Tryd.prog 134 = some 1:=by kernel_rfl
theorem ag134 : qi4 Tryd.prog 134 = some false:=by kernel_rfl
-- no zero of 134: tuple tuple 2 slice - 0 0 bool 0
theorem sz136 : qg9 Tryd.prog 136 = some 4:=by kernel_rfl
theorem ag136 : qi4 Tryd.prog 136 = some true:=by kernel_rfl
theorem zr136 : qe2 Tryd.prog 136 = some (.agg [.d (.v (.string ⟨#[]⟩)),.d (.v (.int .i64 0)),.d (.v (.int .i64 0)),.d (.v (.bool false))]):=by kernel_rfl
theorem pl136 : vn8 Tryd.prog 136 = some [(0,1),(1,3)]:=by kernel_rfl
theorem fl136_0 : qf0 Tryd.prog 136 0 = some (0,1):=by kernel_rfl
theorem pt136_0 : partOf Tryd.prog 136 0 = some (0,1):=by kernel_rfl
theorem fl136_1 : qf0 Tryd.prog 136 1 = some (1,3):=by kernel_rfl
theorem pt136_1 : partOf Tryd.prog 136 1 = some (1,3):=by kernel_rfl
theorem sz137 : qg9 Tryd.prog 137 = some 4:=by kernel_rfl
theorem ag137 : qi4 Tryd.prog 137 = some true:=by kernel_rfl
theorem zr137 : qe2 Tryd.prog 137 = some (.agg [.d (.v (.string ⟨#[]⟩)),.d (.v (.int .i64 0)),.d (.v (.int .i64 0)),.d (.v (.bool false))]):=by kernel_rfl
theorem pl137 : vn8 Tryd.prog 137 = some [(0,1),(1,3)]:=by kernel_rfl
theorem fl137_0 : qf0 Tryd.prog 137 0 = some (0,1):=by kernel_rfl
theorem pt137_0 : partOf Tryd.prog 137 0 = some (0,1):=by kernel_rfl
theorem fl137_1 : qf0 Tryd.prog 137 1 = some (1,3):=by kernel_rfl
theorem pt137_1 : partOf Tryd.prog 137 1 = some (1,3):=by kernel_rfl
theorem sz142 : qg9 Tryd.prog 142 = some 1:=by kernel_rfl
theorem ag142 : qi4 Tryd.prog 142 = some false:=by kernel_rfl
theorem zr142 : qe2 Tryd.prog 142 = some (.d (.v (.map none))):=by kernel_rfl
theorem un142 : Tryd.prog.underlying 142 = some (.map 9 3):=by kernel_rfl
theorem mo142 : mapOf Tryd.prog 142 = some (9,(.int .i64 0)):=by kernel_rfl
theorem sz147 : qg9 Tryd.prog 147 = some 1:=by kernel_rfl
theorem ag147 : qi4 Tryd.prog 147 = some false:=by kernel_rfl
-- no zero of 147: tuple tuple 2 agg 4 int i64 0 int
theorem sz165 : qg9 Tryd.prog 165 = some 1:=by kernel_rfl
theorem ag165 : qi4 Tryd.prog 165 = some false:=by kernel_rfl
theorem zr165 : qe2 Tryd.prog 165 = some (.nil):=by kernel_rfl
theorem el165 : qj9 Tryd.prog 165 = some 1:=by kernel_rfl
theorem un165 : Tryd.prog.underlying 165 = some (.slice 5):=by kernel_rfl
theorem by165 : qo1 Tryd.prog 165 = some 1:=by kernel_rfl
theorem ez165 : qp8 Tryd.prog 165 = true:=by kernel_rfl
theorem sz177 : qg9 Tryd.prog 177 = some 1:=by kernel_rfl
theorem ag177 : qi4 Tryd.prog 177 = some false:=by kernel_rfl
theorem zr177 : qe2 Tryd.prog 177 = some (.d (.v (.int .u32 0))):=by kernel_rfl
theorem un177 : Tryd.prog.underlying 177 = some (.int .u32):=by kernel_rfl
theorem sz179 : qg9 Tryd.prog 179 = some 256:=by kernel_rfl
theorem ag179 : qi4 Tryd.prog 179 = some true:=by kernel_rfl
theorem zr179 : qe2 Tryd.prog 179 = some (.agg [.d (.v (.bool false)),.d (.v (.bool false)),.d (.v (.bool false)),.d (.v (.bool false)),.d (.v (.bool false)),.d (.v (.bool false)),.d (.v (.bool false)),.d (.v (.bool false)),.d (.v (.bool false)),.d (.v (.bool false)),.d (.v (.bool false)),.d (.v (.bool false)),.d (.v (.bool false)),.d (.v (.bool false)),.d (.v (.bool false)),.d (.v (.bool false)),.d (.v (.bool false)),.d (.v (.bool false)),.d (.v (.bool false)),.d (.v (.bool false)),.d (.v (.bool false)),.d (.v (.bool false)),.d (.v (.bool false)),.d (.v (.bool false)),.d (.v (.bool false)),.d (.v (.bool false)),.d (.v (.bool false)),.d (.v (.bool false)),.d (.v (.bool false)),.d (.v (.bool false)),.d (.v (.bool false)),.d (.v (.bool false)),.d (.v (.bool false)),.d (.v (.bool false)),.d (.v (.bool false)),.d (.v (.bool false)),.d (.v (.bool false)),.d (.v (.bool false)),.d (.v (.bool false)),.d (.v (.bool false)),.d (.v (.bool false)),.d (.v (.bool false)),.d (.v (.bool false)),.d (.v (.bool false)),.d (.v (.bool false)),.d (.v (.bool false)),.d (.v (.bool false)),.d (.v (.bool false)),.d (.v (.bool false)),.d (.v (.bool false)),.d (.v (.bool false)),.d (.v (.bool false)),.d (.v (.bool false)),.d (.v (.bool false)),.d (.v (.bool false)),.d (.v (.bool false)),.d (.v (.bool false)),.d (.v (.bool false)),.d (.v (.bool false)),.d (.v (.bool false)),.d (.v (.bool false)),.d (.v (.bool false)),.d (.v (.bool false)),.d (.v (.bool false)),.d (.v (.bool false)),.d (.v (.bool false)),.d (.v (.bool false)),.d (.v (.bool false)),.d (.v (.bool false)),.d (.v (.bool false)),.d (.v (.bool false)),.d (.v (.bool false)),.d (.v (.bool false)),.d (.v (.bool false)),.d (.v (.bool false)),.d (.v (.bool false)),.d (.v (.bool false)),.d (.v (.bool false)),.d (.v (.bool false)),.d (.v (.bool false)),.d (.v (.bool false)),.d (.v (.bool false)),.d (.v (.bool false)),.d (.v (.bool false)),.d (.v (.bool false)),.d (.v (.bool false)),.d (.v (.bool false)),.d (.v (.bool false)),.d (.v (.bool false)),.d (.v (.bool false)),.d (.v (.bool false)),.d (.v (.bool false)),.d (.v (.bool false)),.d (.v (.bool false)),.d (.v (.bool false)),.d (.v (.bool false)),.d (.v (.bool false)),.d (.v (.bool false)),.d (.v (.bool false)),.d (.v (.bool false)),.d (.v (.bool false)),.d (.v (.bool false)),.d (.v (.bool false)),.d (.v (.bool false)),.d (.v (.bool false)),.d (.v (.bool false)),.d (.v (.bool false)),.d (.v (.bool false)),.d (.v (.bool false)),.d (.v (.bool false)),.d (.v (.bool false)),.d (.v (.bool false)),.d (.v (.bool false)),.d (.v (.bool false)),.d (.v (.bool false)),.d (.v (.bool false)),.d (.v (.bool false)),.d (.v (.bool false)),.d (.v (.bool false)),.d (.v (.bool false)),.d (.v (.bool false)),.d (.v (.bool false)),.d (.v (.bool false)),.d (.v (.bool false)),.d (.v (.bool false)),.d (.v (.bool false)),.d (.v (.bool false)),.d (.v (.bool false)),.d (.v (.bool false)),.d (.v (.bool false)),.d (.v (.bool false)),.d (.v (.bool false)),.d (.v (.bool false)),.d (.v (.bool false)),.d (.v (.bool false)),.d (.v (.bool false)),.d (.v (.bool false)),.d (.v (.bool false)),.d (.v (.bool false)),.d (.v (.bool false)),.d (.v (.bool false)),.d (.v (.bool false)),.d (.v (.bool false)),.d (.v (.bool false)),.d (.v (.bool false)),.d (.v (.bool false)),.d (.v (.bool false)),.d (.v (.bool false)),.d (.v (.bool false)),.d (.v (.bool false)),.d (.v (.bool false)),.d (.v (.bool false)),.d (.v (.bool false)),.d (.v (.bool false)),.d (.v (.bool false)),.d (.v (.bool false)),.d (.v (.bool false)),.d (.v (.bool false)),.d (.v (.bool false)),.d (.v (.bool false)),.d (.v (.bool false)),.d (.v (.bool false)),.d (.v (.bool false)),.d (.v (.bool false)),.d (.v (.bool false)),.d (.v (.bool false)),.d (.v (.bool false)),.d (.v (.bool false)),.d (.v (.bool false)),.d (.v (.bool false)),.d (.v (.bool false)),.d (.v (.bool false)),.d (.v (.bool false)),.d (.v (.bool false)),.d (.v (.bool false)),.d (.v (.bool false)),.d (.v (.bool false)),.d (.v (.bool false)),.d (.v (.bool false)),.d (.v (.bool false)),.d (.v (.bool false)),.d (.v (.bool false)),.d (.v (.bool false)),.d (.v (.bool false)),.d (.v (.bool false)),.d (.v (.bool false)),.d (.v (.bool false)),.d (.v (.bool false)),.d (.v (.bool false)),.d (.v (.bool false)),.d (.v (.bool false)),.d (.v (.bool false)),.d (.v (.bool false)),.d (.v (.bool false)),.d (.v (.bool false)),.d (.v (.bool false)),.d (.v (.bool false)),.d (.v (.bool false)),.d (.v (.bool false)),.d (.v (.bool false)),.d (.v (.bool false)),.d (.v (.bool false)),.d (.v (.bool false)),.d (.v (.bool false)),.d (.v (.bool false)),.d (.v (.bool false)),.d (.v (.bool false)),.d (.v (.bool false)),.d (.v (.bool false)),.d (.v (.bool false)),.d (.v (.bool false)),.d (.v (.bool false)),.d (.v (.bool false)),.d (.v (.bool false)),.d (.v (.bool false)),.d (.v (.bool false)),.d (.v (.bool false)),.d (.v (.bool false)),.d (.v (.bool false)),.d (.v (.bool false)),.d (.v (.bool false)),.d (.v (.bool false)),.d (.v (.bool false)),.d (.v (.bool false)),.d (.v (.bool false)),.d (.v (.bool false)),.d (.v (.bool false)),.d (.v (.bool false)),.d (.v (.bool false)),.d (.v (.bool false)),.d (.v (.bool false)),.d (.v (.bool false)),.d (.v (.bool false)),.d (.v (.bool false)),.d (.v (.bool false)),.d (.v (.bool false)),.d (.v (.bool false)),.d (.v (.bool false)),.d (.v (.bool false)),.d (.v (.bool false)),.d (.v (.bool false)),.d (.v (.bool false)),.d (.v (.bool false)),.d (.v (.bool false)),.d (.v (.bool false)),.d (.v (.bool false)),.d (.v (.bool false)),.d (.v (.bool false)),.d (.v (.bool false)),.d (.v (.bool false)),.d (.v (.bool false)),.d (.v (.bool false)),.d (.v (.bool false)),.d (.v (.bool false)),.d (.v (.bool false)),.d (.v (.bool false))]):=by kernel_rfl
theorem sz180 : qg9 Tryd.prog 180 = some 256:=by kernel_rfl
theorem ag180 : qi4 Tryd.prog 180 = some true:=by kernel_rfl
theorem zr180 : qe2 Tryd.prog 180 = some (.agg [.d (.v (.bool false)),.d (.v (.bool false)),.d (.v (.bool false)),.d (.v (.bool false)),.d (.v (.bool false)),.d (.v (.bool false)),.d (.v (.bool false)),.d (.v (.bool false)),.d (.v (.bool false)),.d (.v (.bool false)),.d (.v (.bool false)),.d (.v (.bool false)),.d (.v (.bool false)),.d (.v (.bool false)),.d (.v (.bool false)),.d (.v (.bool false)),.d (.v (.bool false)),.d (.v (.bool false)),.d (.v (.bool false)),.d (.v (.bool false)),.d (.v (.bool false)),.d (.v (.bool false)),.d (.v (.bool false)),.d (.v (.bool false)),.d (.v (.bool false)),.d (.v (.bool false)),.d (.v (.bool false)),.d (.v (.bool false)),.d (.v (.bool false)),.d (.v (.bool false)),.d (.v (.bool false)),.d (.v (.bool false)),.d (.v (.bool false)),.d (.v (.bool false)),.d (.v (.bool false)),.d (.v (.bool false)),.d (.v (.bool false)),.d (.v (.bool false)),.d (.v (.bool false)),.d (.v (.bool false)),.d (.v (.bool false)),.d (.v (.bool false)),.d (.v (.bool false)),.d (.v (.bool false)),.d (.v (.bool false)),.d (.v (.bool false)),.d (.v (.bool false)),.d (.v (.bool false)),.d (.v (.bool false)),.d (.v (.bool false)),.d (.v (.bool false)),.d (.v (.bool false)),.d (.v (.bool false)),.d (.v (.bool false)),.d (.v (.bool false)),.d (.v (.bool false)),.d (.v (.bool false)),.d (.v (.bool false)),.d (.v (.bool false)),.d (.v (.bool false)),.d (.v (.bool false)),.d (.v (.bool false)),.d (.v (.bool false)),.d (.v (.bool false)),.d (.v (.bool false)),.d (.v (.bool false)),.d (.v (.bool false)),.d (.v (.bool false)),.d (.v (.bool false)),.d (.v (.bool false)),.d (.v (.bool false)),.d (.v (.bool false)),.d (.v (.bool false)),.d (.v (.bool false)),.d (.v (.bool false)),.d (.v (.bool false)),.d (.v (.bool false)),.d (.v (.bool false)),.d (.v (.bool false)),.d (.v (.bool false)),.d (.v (.bool false)),.d (.v (.bool false)),.d (.v (.bool false)),.d (.v (.bool false)),.d (.v (.bool false)),.d (.v (.bool false)),.d (.v (.bool false)),.d (.v (.bool false)),.d (.v (.bool false)),.d (.v (.bool false)),.d (.v (.bool false)),.d (.v (.bool false)),.d (.v (.bool false)),.d (.v (.bool false)),.d (.v (.bool false)),.d (.v (.bool false)),.d (.v (.bool false)),.d (.v (.bool false)),.d (.v (.bool false)),.d (.v (.bool false)),.d (.v (.bool false)),.d (.v (.bool false)),.d (.v (.bool false)),.d (.v (.bool false)),.d (.v (.bool false)),.d (.v (.bool false)),.d (.v (.bool false)),.d (.v (.bool false)),.d (.v (.bool false)),.d (.v (.bool false)),.d (.v (.bool false)),.d (.v (.bool false)),.d (.v (.bool false)),.d (.v (.bool false)),.d (.v (.bool false)),.d (.v (.bool false)),.d (.v (.bool false)),.d (.v (.bool false)),.d (.v (.bool false)),.d (.v (.bool false)),.d (.v (.bool false)),.d (.v (.bool false)),.d (.v (.bool false)),.d (.v (.bool false)),.d (.v (.bool false)),.d (.v (.bool false)),.d (.v (.bool false)),.d (.v (.bool false)),.d (.v (.bool false)),.d (.v (.bool false)),.d (.v (.bool false)),.d (.v (.bool false)),.d (.v (.bool false)),.d (.v (.bool false)),.d (.v (.bool false)),.d (.v (.bool false)),.d (.v (.bool false)),.d (.v (.bool false)),.d (.v (.bool false)),.d (.v (.bool false)),.d (.v (.bool false)),.d (.v (.bool false)),.d (.v (.bool false)),.d (.v (.bool false)),.d (.v (.bool false)),.d (.v (.bool false)),.d (.v (.bool false)),.d (.v (.bool false)),.d (.v (.bool false)),.d (.v (.bool false)),.d (.v (.bool false)),.d (.v (.bool false)),.d (.v (.bool false)),.d (.v (.bool false)),.d (.v (.bool false)),.d (.v (.bool false)),.d (.v (.bool false)),.d (.v (.bool false)),.d (.v (.bool false)),.d (.v (.bool false)),.d (.v (.bool false)),.d (.v (.bool false)),.d (.v (.bool false)),.d (.v (.bool false)),.d (.v (.bool false)),.d (.v (.bool false)),.d (.v (.bool false)),.d (.v (.bool false)),.d (.v (.bool false)),.d (.v (.bool false)),.d (.v (.bool false)),.d (.v (.bool false)),.d (.v (.bool false)),.d (.v (.bool false)),.d (.v (.bool false)),.d (.v (.bool false)),.d (.v (.bool false)),.d (.v (.bool false)),.d (.v (.bool false)),.d (.v (.bool false)),.d (.v (.bool false)),.d (.v (.bool false)),.d (.v (.bool false)),.d (.v (.bool false)),.d (.v (.bool false)),.d (.v (.bool false)),.d (.v (.bool false)),.d (.v (.bool false)),.d (.v (.bool false)),.d (.v (.bool false)),.d (.v (.bool false)),.d (.v (.bool false)),.d (.v (.bool false)),.d (.v (.bool false)),.d (.v (.bool false)),.d (.v (.bool false)),.d (.v (.bool false)),.d (.v (.bool false)),.d (.v (.bool false)),.d (.v (.bool false)),.d (.v (.bool false)),.d (.v (.bool false)),.d (.v (.bool false)),.d (.v (.bool false)),.d (.v (.bool false)),.d (.v (.bool false)),.d (.v (.bool false)),.d (.v (.bool false)),.d (.v (.bool false)),.d (.v (.bool false)),.d (.v (.bool false)),.d (.v (.bool false)),.d (.v (.bool false)),.d (.v (.bool false)),.d (.v (.bool false)),.d (.v (.bool false)),.d (.v (.bool false)),.d (.v (.bool false)),.d (.v (.bool false)),.d (.v (.bool false)),.d (.v (.bool false)),.d (.v (.bool false)),.d (.v (.bool false)),.d (.v (.bool false)),.d (.v (.bool false)),.d (.v (.bool false)),.d (.v (.bool false)),.d (.v (.bool false)),.d (.v (.bool false)),.d (.v (.bool false)),.d (.v (.bool false)),.d (.v (.bool false)),.d (.v (.bool false)),.d (.v (.bool false)),.d (.v (.bool false)),.d (.v (.bool false)),.d (.v (.bool false)),.d (.v (.bool false)),.d (.v (.bool false)),.d (.v (.bool false)),.d (.v (.bool false)),.d (.v (.bool false)),.d (.v (.bool false)),.d (.v (.bool false)),.d (.v (.bool false)),.d (.v (.bool false)),.d (.v (.bool false)),.d (.v (.bool false)),.d (.v (.bool false)),.d (.v (.bool false)),.d (.v (.bool false)),.d (.v (.bool false)),.d (.v (.bool false)),.d (.v (.bool false)),.d (.v (.bool false)),.d (.v (.bool false))]):=by kernel_rfl
theorem sz181 : qg9 Tryd.prog 181 = some 1:=by kernel_rfl
theorem ag181 : qi4 Tryd.prog 181 = some false:=by kernel_rfl
-- no zero of 181: tuple tuple 2 agg 256 bool 0 bool 0
theorem sz184 : qg9 Tryd.prog 184 = some 1:=by kernel_rfl
theorem ag184 : qi4 Tryd.prog 184 = some false:=by kernel_rfl
theorem zr184 : qe2 Tryd.prog 184 = some (.d (.v (.pointer none))):=by kernel_rfl
open And renaming intro → ai
theorem TAS : xg4 (ai sz2 (ai ag2 (ai zr2 (ai un2 (ai sz3 (ai ag3 (ai zr3 (ai un3 (ai sz4 (ai ag4 (ai zr4 (ai sz5 (ai ag5 (ai zr5 (ai un5 (ai sz9 (ai ag9 (ai zr9 (ai un9 (ai sz22 (ai ag22 (ai zr22 (ai el22 (ai un22 (ai by22 (ai ez22 (ai sz23 (ai ag23 (ai zr23 (ai el23 (ai un23 (ai by23 (ai ez23 (ai sz24 (ai ag24 (ai zr24 (ai pl24 (ai fl24_0 (ai pt24_0 (ai fl24_1 (ai pt24_1 (ai fl24_2 (ai pt24_2 (ai fl24_3 (ai pt24_3 (ai fl24_4 (ai pt24_4 (ai sz25 (ai ag25 (ai zr25 (ai pl25 (ai fl25_0 (ai pt25_0 (ai fl25_1 (ai pt25_1 (ai fl25_2 (ai pt25_2 (ai fl25_3 (ai pt25_3 (ai fl25_4 (ai pt25_4 (ai sz26 (ai ag26 (ai zr26 (ai el26 (ai un26 (ai by26 (ai ez26 (ai sz27 (ai ag27 (ai zr27 (ai un27 (ai sz28 (ai ag28 (ai sz30 (ai ag30 (ai sz32 (ai ag32 (ai sz39 (ai ag39 (ai sz50 (ai ag50 (ai zr50 (ai el50 (ai un50 (ai by50 (ai ez50 (ai sz71 (ai ag71 (ai zr71 (ai pl71 (ai fl71_0 (ai pt71_0 (ai sz72 (ai ag72 (ai zr72 (ai pl72 (ai fl72_0 (ai pt72_0 (ai sz74 (ai ag74 (ai zr74 (ai sz81 (ai ag81 (ai zr81 (ai pl81 (ai fl81_0 (ai pt81_0 (ai fl81_1 (ai pt81_1 (ai fl81_2 (ai pt81_2 (ai fl81_3 (ai pt81_3 (ai sz82 (ai ag82 (ai zr82 (ai pl82 (ai fl82_0 (ai pt82_0 (ai fl82_1 (ai pt82_1 (ai fl82_2 (ai pt82_2 (ai fl82_3 (ai pt82_3 (ai sz87 (ai ag87 (ai sz90 (ai ag90 (ai zr90 (ai pl90 (ai fl90_0 (ai pt90_0 (ai fl90_1 (ai pt90_1 (ai sz91 (ai ag91 (ai zr91 (ai un91 (ai mo91 (ai sz92 (ai ag92 (ai zr92 (ai el92 (ai un92 (ai by92 (ai ez92 (ai sz93 (ai ag93 (ai sz96 (ai ag96 (ai zr96 (ai pl96 (ai fl96_0 (ai pt96_0 (ai fl96_1 (ai pt96_1 (ai sz97 (ai ag97 (ai zr97 (ai pl97 (ai fl97_0 (ai pt97_0 (ai fl97_1 (ai pt97_1 (ai sz107 (ai ag107 (ai sz113 (ai ag113 (ai zr113 (ai un113 (ai mo113 (ai sz114 (ai ag114 (ai sz116 (ai ag116 (ai zr116 (ai pl116 (ai fl116_0 (ai pt116_0 (ai fl116_1 (ai pt116_1 (ai sz117 (ai ag117 (ai zr117 (ai pl117 (ai fl117_0 (ai pt117_0 (ai fl117_1 (ai pt117_1 (ai sz118 (ai ag118 (ai zr118 (ai el118 (ai un118 (ai by118 (ai ez118 (ai sz127 (ai ag127 (ai zr127 (ai pl127 (ai fl127_0 (ai pt127_0 (ai fl127_1 (ai pt127_1 (ai fl127_2 (ai pt127_2 (ai sz128 (ai ag128 (ai zr128 (ai pl128 (ai fl128_0 (ai pt128_0 (ai fl128_1 (ai pt128_1 (ai fl128_2 (ai pt128_2 (ai sz129 (ai ag129 (ai zr129 (ai un129 (ai mo129 (ai sz130 (ai ag130 (ai zr130 (ai pl130 (ai fl130_0 (ai yz7 (ai fl130_1 (ai pt130_1 (ai sz131 (ai ag131 (ai zr131 (ai pl131 (ai fl131_0 (ai pt131_0 (ai yz4 (ai pt131_1 (ai sz132 (ai ag132 (ai zr132 (ai el132 (ai un132 (ai by132 (ai ez132 (ai sz133 (ai ag133 (ai zr133 (ai el133 (ai un133 (ai by133 (ai ez133 (ai sz134 (ai ag134 (ai sz136 (ai ag136 (ai zr136 (ai pl136 (ai fl136_0 (ai pt136_0 (ai fl136_1 (ai pt136_1 (ai sz137 (ai ag137 (ai zr137 (ai pl137 (ai fl137_0 (ai pt137_0 (ai fl137_1 (ai pt137_1 (ai sz142 (ai ag142 (ai zr142 (ai un142 (ai mo142 (ai sz147 (ai ag147 (ai sz165 (ai ag165 (ai zr165 (ai el165 (ai un165 (ai by165 (ai ez165 (ai sz177 (ai ag177 (ai zr177 (ai un177 (ai sz179 (ai ag179 (ai zr179 (ai sz180 (ai ag180 (ai zr180 (ai sz181 (ai ag181 (ai sz184 (ai ag184 zr184))))))))))))))))))))))))))))))))))))))))))))))))))))))))))))))))))))))))))))))))))))))))))))))))))))))))))))))))))))))))))))))))))))))))))))))))))))))))))))))))))))))))))))))))))))))))))))))))))))))))))))))))))))))))))))))))))))))))))))))))))))))))))))))))))))))))))))))))))))))))))))))))))))))))))) := xh7 _
theorem WA : xg4 (And.intro UN (And.intro LM (TAS))):=xh7 _
end Go.Proofs.YtgecnlcbdbaneaaDoor
