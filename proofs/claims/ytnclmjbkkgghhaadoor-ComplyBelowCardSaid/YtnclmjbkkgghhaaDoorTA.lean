/- Facts on the types that the walks meet: sizes, zeros, fields, elements. -/
import Derived.Test.YtnclmjbkkgghhaaDoorProg
import Derived.Test.YtnclmjbkkgghhaaDoorSwD
set_option linter.unusedVariables false
set_option maxRecDepth 100000
namespace Go.Proofs.YtnclmjbkkgghhaaDoor
open Go.Sw

theorem sz2 : szOf Tryd.prog 2 = some 1:=by kernel_rfl
theorem ag2 : aggB Tryd.prog 2 = some false:=by kernel_rfl
theorem zr2 : zeroS Tryd.prog 2 = some (.d (.v (.int .i64 0))):=by kernel_rfl
theorem un2 : Tryd.prog.underlying 2 = some (.int .i64):=by kernel_rfl
theorem sz3 : szOf Tryd.prog 3 = some 1:=by kernel_rfl
theorem ag3 : aggB Tryd.prog 3 = some false:=by kernel_rfl
theorem zr3 : zeroS Tryd.prog 3 = some (.d (.v (.int .i64 0))):=by kernel_rfl
theorem un3 : Tryd.prog.underlying 3 = some (.int .i64):=by kernel_rfl
theorem sz4 : szOf Tryd.prog 4 = some 1:=by kernel_rfl
theorem ag4 : aggB Tryd.prog 4 = some false:=by kernel_rfl
theorem zr4 : zeroS Tryd.prog 4 = some (.d (.v (.bool false))):=by kernel_rfl
theorem sz5 : szOf Tryd.prog 5 = some 1:=by kernel_rfl
theorem ag5 : aggB Tryd.prog 5 = some false:=by kernel_rfl
theorem zr5 : zeroS Tryd.prog 5 = some (.d (.v (.int .u8 0))):=by kernel_rfl
theorem un5 : Tryd.prog.underlying 5 = some (.int .u8):=by kernel_rfl
theorem sz9 : szOf Tryd.prog 9 = some 1:=by kernel_rfl
theorem ag9 : aggB Tryd.prog 9 = some false:=by kernel_rfl
theorem zr9 : zeroS Tryd.prog 9 = some (.d (.v (.string ⟨#[]⟩))):=by kernel_rfl
theorem un9 : Tryd.prog.underlying 9 = some .string:=by kernel_rfl
theorem sz22 : szOf Tryd.prog 22 = some 1:=by kernel_rfl
theorem ag22 : aggB Tryd.prog 22 = some false:=by kernel_rfl
theorem zr22 : zeroS Tryd.prog 22 = some (.nil):=by kernel_rfl
theorem el22 : elemSz Tryd.prog 22 = some 1:=by kernel_rfl
theorem un22 : Tryd.prog.underlying 22 = some (.slice 9):=by kernel_rfl
theorem by22 : elemBy Tryd.prog 22 = some 16:=by kernel_rfl
theorem ez22 : elemZ Tryd.prog 22 = true:=by kernel_rfl
theorem sz23 : szOf Tryd.prog 23 = some 1:=by kernel_rfl
theorem ag23 : aggB Tryd.prog 23 = some false:=by kernel_rfl
theorem zr23 : zeroS Tryd.prog 23 = some (.nil):=by kernel_rfl
theorem el23 : elemSz Tryd.prog 23 = some 5:=by kernel_rfl
theorem un23 : Tryd.prog.underlying 23 = some (.slice 25):=by kernel_rfl
theorem by23 : elemBy Tryd.prog 23 = some 80:=by kernel_rfl
theorem ez23 : elemZ Tryd.prog 23 = true:=by kernel_rfl
theorem sz24 : szOf Tryd.prog 24 = some 5:=by kernel_rfl
theorem ag24 : aggB Tryd.prog 24 = some true:=by kernel_rfl
theorem zr24 : zeroS Tryd.prog 24 = some (.agg [.d (.v (.int .i64 0)),.d (.v (.int .i64 0)),.d (.v (.string ⟨#[]⟩)),.nil,.nil]):=by kernel_rfl
theorem pl24 : plcs Tryd.prog 24 = some [(0,1),(1,1),(2,1),(3,1),(4,1)]:=by kernel_rfl
theorem fl24_0 : fldOf Tryd.prog 24 0 = some (0,1):=by kernel_rfl
theorem pt24_0 : partOf Tryd.prog 24 0 = some (0,1):=by kernel_rfl
theorem fl24_1 : fldOf Tryd.prog 24 1 = some (1,1):=by kernel_rfl
theorem pt24_1 : partOf Tryd.prog 24 1 = some (1,1):=by kernel_rfl
theorem fl24_2 : fldOf Tryd.prog 24 2 = some (2,1):=by kernel_rfl
theorem pt24_2 : partOf Tryd.prog 24 2 = some (2,1):=by kernel_rfl
theorem fl24_3 : fldOf Tryd.prog 24 3 = some (3,1):=by kernel_rfl
theorem pt24_3 : partOf Tryd.prog 24 3 = some (3,1):=by kernel_rfl
theorem fl24_4 : fldOf Tryd.prog 24 4 = some (4,1):=by kernel_rfl
theorem pt24_4 : partOf Tryd.prog 24 4 = some (4,1):=by kernel_rfl
theorem sz25 : szOf Tryd.prog 25 = some 5:=by kernel_rfl
theorem ag25 : aggB Tryd.prog 25 = some true:=by kernel_rfl
theorem zr25 : zeroS Tryd.prog 25 = some (.agg [.d (.v (.int .i64 0)),.d (.v (.int .i64 0)),.d (.v (.string ⟨#[]⟩)),.nil,.nil]):=by kernel_rfl
theorem pl25 : plcs Tryd.prog 25 = some [(0,1),(1,1),(2,1),(3,1),(4,1)]:=by kernel_rfl
theorem fl25_0 : fldOf Tryd.prog 25 0 = some (0,1):=by kernel_rfl
theorem pt25_0 : partOf Tryd.prog 25 0 = some (0,1):=by kernel_rfl
theorem fl25_1 : fldOf Tryd.prog 25 1 = some (1,1):=by kernel_rfl
theorem pt25_1 : partOf Tryd.prog 25 1 = some (1,1):=by kernel_rfl
theorem fl25_2 : fldOf Tryd.prog 25 2 = some (2,1):=by kernel_rfl
theorem pt25_2 : partOf Tryd.prog 25 2 = some (2,1):=by kernel_rfl
theorem fl25_3 : fldOf Tryd.prog 25 3 = some (3,1):=by kernel_rfl
theorem pt25_3 : partOf Tryd.prog 25 3 = some (3,1):=by kernel_rfl
theorem fl25_4 : fldOf Tryd.prog 25 4 = some (4,1):=by kernel_rfl
theorem pt25_4 : partOf Tryd.prog 25 4 = some (4,1):=by kernel_rfl
theorem sz26 : szOf Tryd.prog 26 = some 1:=by kernel_rfl
theorem ag26 : aggB Tryd.prog 26 = some false:=by kernel_rfl
theorem zr26 : zeroS Tryd.prog 26 = some (.nil):=by kernel_rfl
theorem el26 : elemSz Tryd.prog 26 = some 4:=by kernel_rfl
theorem un26 : Tryd.prog.underlying 26 = some (.slice 72):=by kernel_rfl
theorem by26 : elemBy Tryd.prog 26 = some 64:=by kernel_rfl
theorem ez26 : elemZ Tryd.prog 26 = true:=by kernel_rfl
theorem sz27 : szOf Tryd.prog 27 = some 1:=by kernel_rfl
theorem ag27 : aggB Tryd.prog 27 = some false:=by kernel_rfl
theorem zr27 : zeroS Tryd.prog 27 = some (.d (.v (.int .i64 0))):=by kernel_rfl
theorem un27 : Tryd.prog.underlying 27 = some (.int .i64):=by kernel_rfl
theorem sz28 : szOf Tryd.prog 28 = some 1:=by kernel_rfl
theorem ag28 : aggB Tryd.prog 28 = some false:=by kernel_rfl
-- no zero of 28: tuple tuple 2 slice - 0 0 int i64
theorem sz33 : szOf Tryd.prog 33 = some 1:=by kernel_rfl
theorem ag33 : aggB Tryd.prog 33 = some false:=by kernel_rfl
-- no zero of 33: tuple tuple 2 bool 0 int i64 0 0
theorem sz39 : szOf Tryd.prog 39 = some 1:=by kernel_rfl
theorem ag39 : aggB Tryd.prog 39 = some false:=by kernel_rfl
-- no zero of 39: tuple tuple 2 slice - 0 0 int i64
theorem sz43 : szOf Tryd.prog 43 = some 1:=by kernel_rfl
theorem ag43 : aggB Tryd.prog 43 = some false:=by kernel_rfl
-- no zero of 43: tuple tuple 2 agg 5 int i64 0 int
theorem sz49 : szOf Tryd.prog 49 = some 1:=by kernel_rfl
theorem ag49 : aggB Tryd.prog 49 = some true:=by kernel_rfl
theorem zr49 : zeroS Tryd.prog 49 = some (.agg [.nil]):=by kernel_rfl
theorem pl49 : plcs Tryd.prog 49 = some [(0,1)]:=by kernel_rfl
theorem fl49_0 : fldOf Tryd.prog 49 0 = some (0,1):=by kernel_rfl
theorem pt49_0 : partOf Tryd.prog 49 0 = some (0,1):=by kernel_rfl
theorem sz50 : szOf Tryd.prog 50 = some 1:=by kernel_rfl
theorem ag50 : aggB Tryd.prog 50 = some true:=by kernel_rfl
theorem zr50 : zeroS Tryd.prog 50 = some (.agg [.nil]):=by kernel_rfl
theorem pl50 : plcs Tryd.prog 50 = some [(0,1)]:=by kernel_rfl
theorem fl50_0 : fldOf Tryd.prog 50 0 = some (0,1):=by kernel_rfl
theorem pt50_0 : partOf Tryd.prog 50 0 = some (0,1):=by kernel_rfl
theorem sz52 : szOf Tryd.prog 52 = some 1:=by kernel_rfl
theorem ag52 : aggB Tryd.prog 52 = some false:=by kernel_rfl
theorem zr52 : zeroS Tryd.prog 52 = some (.d (.v .nilFunc)):=by kernel_rfl
theorem sz58 : szOf Tryd.prog 58 = some 2:=by kernel_rfl
theorem ag58 : aggB Tryd.prog 58 = some true:=by kernel_rfl
theorem zr58 : zeroS Tryd.prog 58 = some (.agg [.nil,.nil]):=by kernel_rfl
theorem pl58 : plcs Tryd.prog 58 = some [(0,1),(1,1)]:=by kernel_rfl
theorem fl58_0 : fldOf Tryd.prog 58 0 = some (0,1):=by kernel_rfl
theorem pt58_0 : partOf Tryd.prog 58 0 = some (0,1):=by kernel_rfl
theorem fl58_1 : fldOf Tryd.prog 58 1 = some (1,1):=by kernel_rfl
theorem pt58_1 : partOf Tryd.prog 58 1 = some (1,1):=by kernel_rfl
theorem sz59 : szOf Tryd.prog 59 = some 2:=by kernel_rfl
theorem ag59 : aggB Tryd.prog 59 = some true:=by kernel_rfl
theorem zr59 : zeroS Tryd.prog 59 = some (.agg [.nil,.nil]):=by kernel_rfl
theorem pl59 : plcs Tryd.prog 59 = some [(0,1),(1,1)]:=by kernel_rfl
theorem fl59_0 : fldOf Tryd.prog 59 0 = some (0,1):=by kernel_rfl
theorem pt59_0 : partOf Tryd.prog 59 0 = some (0,1):=by kernel_rfl
theorem fl59_1 : fldOf Tryd.prog 59 1 = some (1,1):=by kernel_rfl
theorem pt59_1 : partOf Tryd.prog 59 1 = some (1,1):=by kernel_rfl
theorem sz60 : szOf Tryd.prog 60 = some 1:=by kernel_rfl
theorem ag60 : aggB Tryd.prog 60 = some false:=by kernel_rfl
-- no zero of 60: tuple tuple 2 agg 2 slice - 0 0
theorem sz62 : szOf Tryd.prog 62 = some 1:=by kernel_rfl
theorem ag62 : aggB Tryd.prog 62 = some false:=by kernel_rfl
-- no zero of 62: tuple tuple 2 slice - 0 0 bool 0
theorem sz67 : szOf Tryd.prog 67 = some 1:=by kernel_rfl
theorem ag67 : aggB Tryd.prog 67 = some false:=by kernel_rfl
theorem zr67 : zeroS Tryd.prog 67 = some (.nil):=by kernel_rfl
theorem el67 : elemSz Tryd.prog 67 = some 1:=by kernel_rfl
theorem un67 : Tryd.prog.underlying 67 = some (.slice 3):=by kernel_rfl
theorem by67 : elemBy Tryd.prog 67 = some 8:=by kernel_rfl
theorem ez67 : elemZ Tryd.prog 67 = true:=by kernel_rfl
theorem sz71 : szOf Tryd.prog 71 = some 4:=by kernel_rfl
theorem ag71 : aggB Tryd.prog 71 = some true:=by kernel_rfl
theorem zr71 : zeroS Tryd.prog 71 = some (.agg [.d (.v (.int .i64 0)),.d (.v (.int .i64 0)),.nil,.nil]):=by kernel_rfl
theorem pl71 : plcs Tryd.prog 71 = some [(0,1),(1,1),(2,1),(3,1)]:=by kernel_rfl
theorem fl71_0 : fldOf Tryd.prog 71 0 = some (0,1):=by kernel_rfl
theorem pt71_0 : partOf Tryd.prog 71 0 = some (0,1):=by kernel_rfl
theorem fl71_1 : fldOf Tryd.prog 71 1 = some (1,1):=by kernel_rfl
theorem pt71_1 : partOf Tryd.prog 71 1 = some (1,1):=by kernel_rfl
theorem fl71_2 : fldOf Tryd.prog 71 2 = some (2,1):=by kernel_rfl
theorem pt71_2 : partOf Tryd.prog 71 2 = some (2,1):=by kernel_rfl
theorem fl71_3 : fldOf Tryd.prog 71 3 = some (3,1):=by kernel_rfl
theorem pt71_3 : partOf Tryd.prog 71 3 = some (3,1):=by kernel_rfl
theorem sz72 : szOf Tryd.prog 72 = some 4:=by kernel_rfl
theorem ag72 : aggB Tryd.prog 72 = some true:=by kernel_rfl
theorem zr72 : zeroS Tryd.prog 72 = some (.agg [.d (.v (.int .i64 0)),.d (.v (.int .i64 0)),.nil,.nil]):=by kernel_rfl
theorem pl72 : plcs Tryd.prog 72 = some [(0,1),(1,1),(2,1),(3,1)]:=by kernel_rfl
theorem fl72_0 : fldOf Tryd.prog 72 0 = some (0,1):=by kernel_rfl
theorem pt72_0 : partOf Tryd.prog 72 0 = some (0,1):=by kernel_rfl
theorem fl72_1 : fldOf Tryd.prog 72 1 = some (1,1):=by kernel_rfl
theorem pt72_1 : partOf Tryd.prog 72 1 = some (1,1):=by kernel_rfl
theorem fl72_2 : fldOf Tryd.prog 72 2 = some (2,1):=by kernel_rfl
theorem pt72_2 : partOf Tryd.prog 72 2 = some (2,1):=by kernel_rfl
theorem fl72_3 : fldOf Tryd.prog 72 3 = some (3,1):=by kernel_rfl
theorem pt72_3 : partOf Tryd.prog 72 3 = some (3,1):=by kernel_rfl
theorem sz83 : szOf Tryd.prog 83 = some 1:=by kernel_rfl
theorem ag83 : aggB Tryd.prog 83 = some false:=by kernel_rfl
theorem zr83 : zeroS Tryd.prog 83 = some (.d (.v (.map none))):=by kernel_rfl
theorem un83 : Tryd.prog.underlying 83 = some (.map 3 3):=by kernel_rfl
theorem mo83 : mapOf Tryd.prog 83 = some (3,(.int .i64 0)):=by kernel_rfl
theorem sz84 : szOf Tryd.prog 84 = some 1:=by kernel_rfl
theorem ag84 : aggB Tryd.prog 84 = some false:=by kernel_rfl
-- no zero of 84: tuple tuple 2 int i64 0 bool 0 0
theorem sz89 : szOf Tryd.prog 89 = some 3:=by kernel_rfl
theorem ag89 : aggB Tryd.prog 89 = some true:=by kernel_rfl
theorem zr89 : zeroS Tryd.prog 89 = some (.agg [.d (.v (.int .i64 0)),.d (.v (.int .i64 0)),.d (.v (.bool false))]):=by kernel_rfl
theorem pl89 : plcs Tryd.prog 89 = some [(0,1),(1,1),(2,1)]:=by kernel_rfl
theorem fl89_0 : fldOf Tryd.prog 89 0 = some (0,1):=by kernel_rfl
theorem pt89_0 : partOf Tryd.prog 89 0 = some (0,1):=by kernel_rfl
theorem fl89_1 : fldOf Tryd.prog 89 1 = some (1,1):=by kernel_rfl
theorem pt89_1 : partOf Tryd.prog 89 1 = some (1,1):=by kernel_rfl
theorem fl89_2 : fldOf Tryd.prog 89 2 = some (2,1):=by kernel_rfl
theorem pt89_2 : partOf Tryd.prog 89 2 = some (2,1):=by kernel_rfl
theorem sz90 : szOf Tryd.prog 90 = some 3:=by kernel_rfl
theorem ag90 : aggB Tryd.prog 90 = some true:=by kernel_rfl
theorem zr90 : zeroS Tryd.prog 90 = some (.agg [.d (.v (.int .i64 0)),.d (.v (.int .i64 0)),.d (.v (.bool false))]):=by kernel_rfl
theorem pl90 : plcs Tryd.prog 90 = some [(0,1),(1,1),(2,1)]:=by kernel_rfl
theorem fl90_0 : fldOf Tryd.prog 90 0 = some (0,1):=by kernel_rfl
theorem pt90_0 : partOf Tryd.prog 90 0 = some (0,1):=by kernel_rfl
theorem fl90_1 : fldOf Tryd.prog 90 1 = some (1,1):=by kernel_rfl
theorem pt90_1 : partOf Tryd.prog 90 1 = some (1,1):=by kernel_rfl
theorem fl90_2 : fldOf Tryd.prog 90 2 = some (2,1):=by kernel_rfl
theorem pt90_2 : partOf Tryd.prog 90 2 = some (2,1):=by kernel_rfl
theorem sz91 : szOf Tryd.prog 91 = some 1:=by kernel_rfl
theorem ag91 : aggB Tryd.prog 91 = some false:=by kernel_rfl
theorem zr91 : zeroS Tryd.prog 91 = some (.d (.v (.map none))):=by kernel_rfl
theorem un91 : Tryd.prog.underlying 91 = some (.map 90 3):=by kernel_rfl
theorem mo91 : mapOf Tryd.prog 91 = some (90,(.int .i64 0)):=by kernel_rfl
theorem sz92 : szOf Tryd.prog 92 = some 4:=by kernel_rfl
theorem ag92 : aggB Tryd.prog 92 = some true:=by kernel_rfl
theorem zr92 : zeroS Tryd.prog 92 = some (.agg [.d (.v (.int .i64 0)),.d (.v (.int .i64 0)),.d (.v (.bool false)),.nil]):=by kernel_rfl
theorem pl92 : plcs Tryd.prog 92 = some [(0,3),(3,1)]:=by kernel_rfl
theorem fl92_0 : fldOf Tryd.prog 92 0 = some (0,3):=by kernel_rfl
theorem pt92_0 : partOf Tryd.prog 92 0 = some (0,3):=by kernel_rfl
theorem fl92_1 : fldOf Tryd.prog 92 1 = some (3,1):=by kernel_rfl
theorem pt92_1 : partOf Tryd.prog 92 1 = some (3,1):=by kernel_rfl
theorem sz93 : szOf Tryd.prog 93 = some 4:=by kernel_rfl
theorem ag93 : aggB Tryd.prog 93 = some true:=by kernel_rfl
theorem zr93 : zeroS Tryd.prog 93 = some (.agg [.d (.v (.int .i64 0)),.d (.v (.int .i64 0)),.d (.v (.bool false)),.nil]):=by kernel_rfl
theorem pl93 : plcs Tryd.prog 93 = some [(0,3),(3,1)]:=by kernel_rfl
theorem fl93_0 : fldOf Tryd.prog 93 0 = some (0,3):=by kernel_rfl
theorem pt93_0 : partOf Tryd.prog 93 0 = some (0,3):=by kernel_rfl
theorem fl93_1 : fldOf Tryd.prog 93 1 = some (3,1):=by kernel_rfl
theorem pt93_1 : partOf Tryd.prog 93 1 = some (3,1):=by kernel_rfl
theorem sz94 : szOf Tryd.prog 94 = some 1:=by kernel_rfl
theorem ag94 : aggB Tryd.prog 94 = some false:=by kernel_rfl
theorem zr94 : zeroS Tryd.prog 94 = some (.nil):=by kernel_rfl
theorem el94 : elemSz Tryd.prog 94 = some 4:=by kernel_rfl
theorem un94 : Tryd.prog.underlying 94 = some (.slice 93):=by kernel_rfl
theorem by94 : elemBy Tryd.prog 94 = some 48:=by kernel_rfl
theorem ez94 : elemZ Tryd.prog 94 = true:=by kernel_rfl
theorem sz95 : szOf Tryd.prog 95 = some 1:=by kernel_rfl
theorem ag95 : aggB Tryd.prog 95 = some false:=by kernel_rfl
theorem zr95 : zeroS Tryd.prog 95 = some (.nil):=by kernel_rfl
theorem el95 : elemSz Tryd.prog 95 = some 4:=by kernel_rfl
theorem un95 : Tryd.prog.underlying 95 = some (.slice 99):=by kernel_rfl
theorem by95 : elemBy Tryd.prog 95 = some 40:=by kernel_rfl
theorem ez95 : elemZ Tryd.prog 95 = true:=by kernel_rfl
theorem sz96 : szOf Tryd.prog 96 = some 1:=by kernel_rfl
theorem ag96 : aggB Tryd.prog 96 = some false:=by kernel_rfl
-- no zero of 96: tuple tuple 2 slice - 0 0 bool 0
theorem sz98 : szOf Tryd.prog 98 = some 4:=by kernel_rfl
theorem ag98 : aggB Tryd.prog 98 = some true:=by kernel_rfl
theorem zr98 : zeroS Tryd.prog 98 = some (.agg [.d (.v (.string ⟨#[]⟩)),.d (.v (.int .i64 0)),.d (.v (.int .i64 0)),.d (.v (.bool false))]):=by kernel_rfl
theorem pl98 : plcs Tryd.prog 98 = some [(0,1),(1,3)]:=by kernel_rfl
theorem fl98_0 : fldOf Tryd.prog 98 0 = some (0,1):=by kernel_rfl
theorem pt98_0 : partOf Tryd.prog 98 0 = some (0,1):=by kernel_rfl
theorem fl98_1 : fldOf Tryd.prog 98 1 = some (1,3):=by kernel_rfl
theorem pt98_1 : partOf Tryd.prog 98 1 = some (1,3):=by kernel_rfl
theorem sz99 : szOf Tryd.prog 99 = some 4:=by kernel_rfl
theorem ag99 : aggB Tryd.prog 99 = some true:=by kernel_rfl
theorem zr99 : zeroS Tryd.prog 99 = some (.agg [.d (.v (.string ⟨#[]⟩)),.d (.v (.int .i64 0)),.d (.v (.int .i64 0)),.d (.v (.bool false))]):=by kernel_rfl
theorem pl99 : plcs Tryd.prog 99 = some [(0,1),(1,3)]:=by kernel_rfl
theorem fl99_0 : fldOf Tryd.prog 99 0 = some (0,1):=by kernel_rfl
theorem pt99_0 : partOf Tryd.prog 99 0 = some (0,1):=by kernel_rfl
theorem fl99_1 : fldOf Tryd.prog 99 1 = some (1,3):=by kernel_rfl
theorem pt99_1 : partOf Tryd.prog 99 1 = some (1,3):=by kernel_rfl
theorem sz103 : szOf Tryd.prog 103 = some 2:=by kernel_rfl
theorem ag103 : aggB Tryd.prog 103 = some true:=by kernel_rfl
theorem zr103 : zeroS Tryd.prog 103 = some (.agg [.d (.v (.int .i64 0)),.d (.v (.int .i64 0))]):=by kernel_rfl
theorem pl103 : plcs Tryd.prog 103 = some [(0,1),(1,1)]:=by kernel_rfl
theorem fl103_0 : fldOf Tryd.prog 103 0 = some (0,1):=by kernel_rfl
theorem pt103_0 : partOf Tryd.prog 103 0 = some (0,1):=by kernel_rfl
theorem fl103_1 : fldOf Tryd.prog 103 1 = some (1,1):=by kernel_rfl
theorem pt103_1 : partOf Tryd.prog 103 1 = some (1,1):=by kernel_rfl
theorem sz104 : szOf Tryd.prog 104 = some 1:=by kernel_rfl
theorem ag104 : aggB Tryd.prog 104 = some false:=by kernel_rfl
theorem zr104 : zeroS Tryd.prog 104 = some (.d (.v (.map none))):=by kernel_rfl
theorem un104 : Tryd.prog.underlying 104 = some (.map 103 3):=by kernel_rfl
theorem mo104 : mapOf Tryd.prog 104 = some (103,(.int .i64 0)):=by kernel_rfl
theorem sz105 : szOf Tryd.prog 105 = some 3:=by kernel_rfl
theorem ag105 : aggB Tryd.prog 105 = some true:=by kernel_rfl
theorem zr105 : zeroS Tryd.prog 105 = some (.agg [.d (.v (.int .i64 0)),.d (.v (.int .i64 0)),.nil]):=by kernel_rfl
theorem pl105 : plcs Tryd.prog 105 = some [(0,2),(2,1)]:=by kernel_rfl
theorem fl105_0 : fldOf Tryd.prog 105 0 = some (0,2):=by kernel_rfl
theorem pt105_0 : partOf Tryd.prog 105 0 = some (0,2):=by kernel_rfl
theorem fl105_1 : fldOf Tryd.prog 105 1 = some (2,1):=by kernel_rfl
theorem pt105_1 : partOf Tryd.prog 105 1 = some (2,1):=by kernel_rfl
theorem sz106 : szOf Tryd.prog 106 = some 3:=by kernel_rfl
theorem ag106 : aggB Tryd.prog 106 = some true:=by kernel_rfl
theorem zr106 : zeroS Tryd.prog 106 = some (.agg [.d (.v (.int .i64 0)),.d (.v (.int .i64 0)),.nil]):=by kernel_rfl
theorem pl106 : plcs Tryd.prog 106 = some [(0,2),(2,1)]:=by kernel_rfl
theorem fl106_0 : fldOf Tryd.prog 106 0 = some (0,2):=by kernel_rfl
theorem pt106_0 : partOf Tryd.prog 106 0 = some (0,2):=by kernel_rfl
theorem fl106_1 : fldOf Tryd.prog 106 1 = some (2,1):=by kernel_rfl
theorem pt106_1 : partOf Tryd.prog 106 1 = some (2,1):=by kernel_rfl
theorem sz107 : szOf Tryd.prog 107 = some 1:=by kernel_rfl
theorem ag107 : aggB Tryd.prog 107 = some false:=by kernel_rfl
theorem zr107 : zeroS Tryd.prog 107 = some (.nil):=by kernel_rfl
theorem el107 : elemSz Tryd.prog 107 = some 3:=by kernel_rfl
theorem un107 : Tryd.prog.underlying 107 = some (.slice 106):=by kernel_rfl
theorem by107 : elemBy Tryd.prog 107 = some 40:=by kernel_rfl
theorem ez107 : elemZ Tryd.prog 107 = true:=by kernel_rfl
theorem sz108 : szOf Tryd.prog 108 = some 1:=by kernel_rfl
theorem ag108 : aggB Tryd.prog 108 = some false:=by kernel_rfl
theorem zr108 : zeroS Tryd.prog 108 = some (.nil):=by kernel_rfl
theorem el108 : elemSz Tryd.prog 108 = some 2:=by kernel_rfl
theorem un108 : Tryd.prog.underlying 108 = some (.slice 103):=by kernel_rfl
theorem by108 : elemBy Tryd.prog 108 = some 16:=by kernel_rfl
theorem ez108 : elemZ Tryd.prog 108 = true:=by kernel_rfl
theorem sz109 : szOf Tryd.prog 109 = some 1:=by kernel_rfl
theorem ag109 : aggB Tryd.prog 109 = some false:=by kernel_rfl
-- no zero of 109: tuple tuple 3 slice - 0 0 slice -
theorem sz111 : szOf Tryd.prog 111 = some 1:=by kernel_rfl
theorem ag111 : aggB Tryd.prog 111 = some false:=by kernel_rfl
theorem zr111 : zeroS Tryd.prog 111 = some (.d (.v (.map none))):=by kernel_rfl
theorem un111 : Tryd.prog.underlying 111 = some (.map 9 3):=by kernel_rfl
theorem mo111 : mapOf Tryd.prog 111 = some (9,(.int .i64 0)):=by kernel_rfl
theorem sz113 : szOf Tryd.prog 113 = some 1:=by kernel_rfl
theorem ag113 : aggB Tryd.prog 113 = some false:=by kernel_rfl
-- no zero of 113: tuple tuple 2 agg 4 int i64 0 int
theorem sz123 : szOf Tryd.prog 123 = some 1:=by kernel_rfl
theorem ag123 : aggB Tryd.prog 123 = some false:=by kernel_rfl
theorem zr123 : zeroS Tryd.prog 123 = some (.nil):=by kernel_rfl
theorem el123 : elemSz Tryd.prog 123 = some 1:=by kernel_rfl
theorem un123 : Tryd.prog.underlying 123 = some (.slice 5):=by kernel_rfl
theorem by123 : elemBy Tryd.prog 123 = some 1:=by kernel_rfl
theorem ez123 : elemZ Tryd.prog 123 = true:=by kernel_rfl
theorem sz127 : szOf Tryd.prog 127 = some 256:=by kernel_rfl
theorem ag127 : aggB Tryd.prog 127 = some true:=by kernel_rfl
theorem zr127 : zeroS Tryd.prog 127 = some (.agg [.d (.v (.bool false)),.d (.v (.bool false)),.d (.v (.bool false)),.d (.v (.bool false)),.d (.v (.bool false)),.d (.v (.bool false)),.d (.v (.bool false)),.d (.v (.bool false)),.d (.v (.bool false)),.d (.v (.bool false)),.d (.v (.bool false)),.d (.v (.bool false)),.d (.v (.bool false)),.d (.v (.bool false)),.d (.v (.bool false)),.d (.v (.bool false)),.d (.v (.bool false)),.d (.v (.bool false)),.d (.v (.bool false)),.d (.v (.bool false)),.d (.v (.bool false)),.d (.v (.bool false)),.d (.v (.bool false)),.d (.v (.bool false)),.d (.v (.bool false)),.d (.v (.bool false)),.d (.v (.bool false)),.d (.v (.bool false)),.d (.v (.bool false)),.d (.v (.bool false)),.d (.v (.bool false)),.d (.v (.bool false)),.d (.v (.bool false)),.d (.v (.bool false)),.d (.v (.bool false)),.d (.v (.bool false)),.d (.v (.bool false)),.d (.v (.bool false)),.d (.v (.bool false)),.d (.v (.bool false)),.d (.v (.bool false)),.d (.v (.bool false)),.d (.v (.bool false)),.d (.v (.bool false)),.d (.v (.bool false)),.d (.v (.bool false)),.d (.v (.bool false)),.d (.v (.bool false)),.d (.v (.bool false)),.d (.v (.bool false)),.d (.v (.bool false)),.d (.v (.bool false)),.d (.v (.bool false)),.d (.v (.bool false)),.d (.v (.bool false)),.d (.v (.bool false)),.d (.v (.bool false)),.d (.v (.bool false)),.d (.v (.bool false)),.d (.v (.bool false)),.d (.v (.bool false)),.d (.v (.bool false)),.d (.v (.bool false)),.d (.v (.bool false)),.d (.v (.bool false)),.d (.v (.bool false)),.d (.v (.bool false)),.d (.v (.bool false)),.d (.v (.bool false)),.d (.v (.bool false)),.d (.v (.bool false)),.d (.v (.bool false)),.d (.v (.bool false)),.d (.v (.bool false)),.d (.v (.bool false)),.d (.v (.bool false)),.d (.v (.bool false)),.d (.v (.bool false)),.d (.v (.bool false)),.d (.v (.bool false)),.d (.v (.bool false)),.d (.v (.bool false)),.d (.v (.bool false)),.d (.v (.bool false)),.d (.v (.bool false)),.d (.v (.bool false)),.d (.v (.bool false)),.d (.v (.bool false)),.d (.v (.bool false)),.d (.v (.bool false)),.d (.v (.bool false)),.d (.v (.bool false)),.d (.v (.bool false)),.d (.v (.bool false)),.d (.v (.bool false)),.d (.v (.bool false)),.d (.v (.bool false)),.d (.v (.bool false)),.d (.v (.bool false)),.d (.v (.bool false)),.d (.v (.bool false)),.d (.v (.bool false)),.d (.v (.bool false)),.d (.v (.bool false)),.d (.v (.bool false)),.d (.v (.bool false)),.d (.v (.bool false)),.d (.v (.bool false)),.d (.v (.bool false)),.d (.v (.bool false)),.d (.v (.bool false)),.d (.v (.bool false)),.d (.v (.bool false)),.d (.v (.bool false)),.d (.v (.bool false)),.d (.v (.bool false)),.d (.v (.bool false)),.d (.v (.bool false)),.d (.v (.bool false)),.d (.v (.bool false)),.d (.v (.bool false)),.d (.v (.bool false)),.d (.v (.bool false)),.d (.v (.bool false)),.d (.v (.bool false)),.d (.v (.bool false)),.d (.v (.bool false)),.d (.v (.bool false)),.d (.v (.bool false)),.d (.v (.bool false)),.d (.v (.bool false)),.d (.v (.bool false)),.d (.v (.bool false)),.d (.v (.bool false)),.d (.v (.bool false)),.d (.v (.bool false)),.d (.v (.bool false)),.d (.v (.bool false)),.d (.v (.bool false)),.d (.v (.bool false)),.d (.v (.bool false)),.d (.v (.bool false)),.d (.v (.bool false)),.d (.v (.bool false)),.d (.v (.bool false)),.d (.v (.bool false)),.d (.v (.bool false)),.d (.v (.bool false)),.d (.v (.bool false)),.d (.v (.bool false)),.d (.v (.bool false)),.d (.v (.bool false)),.d (.v (.bool false)),.d (.v (.bool false)),.d (.v (.bool false)),.d (.v (.bool false)),.d (.v (.bool false)),.d (.v (.bool false)),.d (.v (.bool false)),.d (.v (.bool false)),.d (.v (.bool false)),.d (.v (.bool false)),.d (.v (.bool false)),.d (.v (.bool false)),.d (.v (.bool false)),.d (.v (.bool false)),.d (.v (.bool false)),.d (.v (.bool false)),.d (.v (.bool false)),.d (.v (.bool false)),.d (.v (.bool false)),.d (.v (.bool false)),.d (.v (.bool false)),.d (.v (.bool false)),.d (.v (.bool false)),.d (.v (.bool false)),.d (.v (.bool false)),.d (.v (.bool false)),.d (.v (.bool false)),.d (.v (.bool false)),.d (.v (.bool false)),.d (.v (.bool false)),.d (.v (.bool false)),.d (.v (.bool false)),.d (.v (.bool false)),.d (.v (.bool false)),.d (.v (.bool false)),.d (.v (.bool false)),.d (.v (.bool false)),.d (.v (.bool false)),.d (.v (.bool false)),.d (.v (.bool false)),.d (.v (.bool false)),.d (.v (.bool false)),.d (.v (.bool false)),.d (.v (.bool false)),.d (.v (.bool false)),.d (.v (.bool false)),.d (.v (.bool false)),.d (.v (.bool false)),.d (.v (.bool false)),.d (.v (.bool false)),.d (.v (.bool false)),.d (.v (.bool false)),.d (.v (.bool false)),.d (.v (.bool false)),.d (.v (.bool false)),.d (.v (.bool false)),.d (.v (.bool false)),.d (.v (.bool false)),.d (.v (.bool false)),.d (.v (.bool false)),.d (.v (.bool false)),.d (.v (.bool false)),.d (.v (.bool false)),.d (.v (.bool false)),.d (.v (.bool false)),.d (.v (.bool false)),.d (.v (.bool false)),.d (.v (.bool false)),.d (.v (.bool false)),.d (.v (.bool false)),.d (.v (.bool false)),.d (.v (.bool false)),.d (.v (.bool false)),.d (.v (.bool false)),.d (.v (.bool false)),.d (.v (.bool false)),.d (.v (.bool false)),.d (.v (.bool false)),.d (.v (.bool false)),.d (.v (.bool false)),.d (.v (.bool false)),.d (.v (.bool false)),.d (.v (.bool false)),.d (.v (.bool false)),.d (.v (.bool false)),.d (.v (.bool false)),.d (.v (.bool false)),.d (.v (.bool false)),.d (.v (.bool false)),.d (.v (.bool false)),.d (.v (.bool false)),.d (.v (.bool false)),.d (.v (.bool false)),.d (.v (.bool false)),.d (.v (.bool false)),.d (.v (.bool false)),.d (.v (.bool false)),.d (.v (.bool false)),.d (.v (.bool false)),.d (.v (.bool false)),.d (.v (.bool false)),.d (.v (.bool false)),.d (.v (.bool false)),.d (.v (.bool false))]):=by kernel_rfl
theorem sz128 : szOf Tryd.prog 128 = some 256:=by kernel_rfl
theorem ag128 : aggB Tryd.prog 128 = some true:=by kernel_rfl
theorem zr128 : zeroS Tryd.prog 128 = some (.agg [.d (.v (.bool false)),.d (.v (.bool false)),.d (.v (.bool false)),.d (.v (.bool false)),.d (.v (.bool false)),.d (.v (.bool false)),.d (.v (.bool false)),.d (.v (.bool false)),.d (.v (.bool false)),.d (.v (.bool false)),.d (.v (.bool false)),.d (.v (.bool false)),.d (.v (.bool false)),.d (.v (.bool false)),.d (.v (.bool false)),.d (.v (.bool false)),.d (.v (.bool false)),.d (.v (.bool false)),.d (.v (.bool false)),.d (.v (.bool false)),.d (.v (.bool false)),.d (.v (.bool false)),.d (.v (.bool false)),.d (.v (.bool false)),.d (.v (.bool false)),.d (.v (.bool false)),.d (.v (.bool false)),.d (.v (.bool false)),.d (.v (.bool false)),.d (.v (.bool false)),.d (.v (.bool false)),.d (.v (.bool false)),.d (.v (.bool false)),.d (.v (.bool false)),.d (.v (.bool false)),.d (.v (.bool false)),.d (.v (.bool false)),.d (.v (.bool false)),.d (.v (.bool false)),.d (.v (.bool false)),.d (.v (.bool false)),.d (.v (.bool false)),.d (.v (.bool false)),.d (.v (.bool false)),.d (.v (.bool false)),.d (.v (.bool false)),.d (.v (.bool false)),.d (.v (.bool false)),.d (.v (.bool false)),.d (.v (.bool false)),.d (.v (.bool false)),.d (.v (.bool false)),.d (.v (.bool false)),.d (.v (.bool false)),.d (.v (.bool false)),.d (.v (.bool false)),.d (.v (.bool false)),.d (.v (.bool false)),.d (.v (.bool false)),.d (.v (.bool false)),.d (.v (.bool false)),.d (.v (.bool false)),.d (.v (.bool false)),.d (.v (.bool false)),.d (.v (.bool false)),.d (.v (.bool false)),.d (.v (.bool false)),.d (.v (.bool false)),.d (.v (.bool false)),.d (.v (.bool false)),.d (.v (.bool false)),.d (.v (.bool false)),.d (.v (.bool false)),.d (.v (.bool false)),.d (.v (.bool false)),.d (.v (.bool false)),.d (.v (.bool false)),.d (.v (.bool false)),.d (.v (.bool false)),.d (.v (.bool false)),.d (.v (.bool false)),.d (.v (.bool false)),.d (.v (.bool false)),.d (.v (.bool false)),.d (.v (.bool false)),.d (.v (.bool false)),.d (.v (.bool false)),.d (.v (.bool false)),.d (.v (.bool false)),.d (.v (.bool false)),.d (.v (.bool false)),.d (.v (.bool false)),.d (.v (.bool false)),.d (.v (.bool false)),.d (.v (.bool false)),.d (.v (.bool false)),.d (.v (.bool false)),.d (.v (.bool false)),.d (.v (.bool false)),.d (.v (.bool false)),.d (.v (.bool false)),.d (.v (.bool false)),.d (.v (.bool false)),.d (.v (.bool false)),.d (.v (.bool false)),.d (.v (.bool false)),.d (.v (.bool false)),.d (.v (.bool false)),.d (.v (.bool false)),.d (.v (.bool false)),.d (.v (.bool false)),.d (.v (.bool false)),.d (.v (.bool false)),.d (.v (.bool false)),.d (.v (.bool false)),.d (.v (.bool false)),.d (.v (.bool false)),.d (.v (.bool false)),.d (.v (.bool false)),.d (.v (.bool false)),.d (.v (.bool false)),.d (.v (.bool false)),.d (.v (.bool false)),.d (.v (.bool false)),.d (.v (.bool false)),.d (.v (.bool false)),.d (.v (.bool false)),.d (.v (.bool false)),.d (.v (.bool false)),.d (.v (.bool false)),.d (.v (.bool false)),.d (.v (.bool false)),.d (.v (.bool false)),.d (.v (.bool false)),.d (.v (.bool false)),.d (.v (.bool false)),.d (.v (.bool false)),.d (.v (.bool false)),.d (.v (.bool false)),.d (.v (.bool false)),.d (.v (.bool false)),.d (.v (.bool false)),.d (.v (.bool false)),.d (.v (.bool false)),.d (.v (.bool false)),.d (.v (.bool false)),.d (.v (.bool false)),.d (.v (.bool false)),.d (.v (.bool false)),.d (.v (.bool false)),.d (.v (.bool false)),.d (.v (.bool false)),.d (.v (.bool false)),.d (.v (.bool false)),.d (.v (.bool false)),.d (.v (.bool false)),.d (.v (.bool false)),.d (.v (.bool false)),.d (.v (.bool false)),.d (.v (.bool false)),.d (.v (.bool false)),.d (.v (.bool false)),.d (.v (.bool false)),.d (.v (.bool false)),.d (.v (.bool false)),.d (.v (.bool false)),.d (.v (.bool false)),.d (.v (.bool false)),.d (.v (.bool false)),.d (.v (.bool false)),.d (.v (.bool false)),.d (.v (.bool false)),.d (.v (.bool false)),.d (.v (.bool false)),.d (.v (.bool false)),.d (.v (.bool false)),.d (.v (.bool false)),.d (.v (.bool false)),.d (.v (.bool false)),.d (.v (.bool false)),.d (.v (.bool false)),.d (.v (.bool false)),.d (.v (.bool false)),.d (.v (.bool false)),.d (.v (.bool false)),.d (.v (.bool false)),.d (.v (.bool false)),.d (.v (.bool false)),.d (.v (.bool false)),.d (.v (.bool false)),.d (.v (.bool false)),.d (.v (.bool false)),.d (.v (.bool false)),.d (.v (.bool false)),.d (.v (.bool false)),.d (.v (.bool false)),.d (.v (.bool false)),.d (.v (.bool false)),.d (.v (.bool false)),.d (.v (.bool false)),.d (.v (.bool false)),.d (.v (.bool false)),.d (.v (.bool false)),.d (.v (.bool false)),.d (.v (.bool false)),.d (.v (.bool false)),.d (.v (.bool false)),.d (.v (.bool false)),.d (.v (.bool false)),.d (.v (.bool false)),.d (.v (.bool false)),.d (.v (.bool false)),.d (.v (.bool false)),.d (.v (.bool false)),.d (.v (.bool false)),.d (.v (.bool false)),.d (.v (.bool false)),.d (.v (.bool false)),.d (.v (.bool false)),.d (.v (.bool false)),.d (.v (.bool false)),.d (.v (.bool false)),.d (.v (.bool false)),.d (.v (.bool false)),.d (.v (.bool false)),.d (.v (.bool false)),.d (.v (.bool false)),.d (.v (.bool false)),.d (.v (.bool false)),.d (.v (.bool false)),.d (.v (.bool false)),.d (.v (.bool false)),.d (.v (.bool false)),.d (.v (.bool false)),.d (.v (.bool false)),.d (.v (.bool false)),.d (.v (.bool false)),.d (.v (.bool false)),.d (.v (.bool false)),.d (.v (.bool false)),.d (.v (.bool false)),.d (.v (.bool false)),.d (.v (.bool false)),.d (.v (.bool false)),.d (.v (.bool false)),.d (.v (.bool false)),.d (.v (.bool false)),.d (.v (.bool false)),.d (.v (.bool false)),.d (.v (.bool false)),.d (.v (.bool false)),.d (.v (.bool false)),.d (.v (.bool false)),.d (.v (.bool false)),.d (.v (.bool false)),.d (.v (.bool false))]):=by kernel_rfl
theorem sz129 : szOf Tryd.prog 129 = some 1:=by kernel_rfl
theorem ag129 : aggB Tryd.prog 129 = some false:=by kernel_rfl
-- no zero of 129: tuple tuple 2 agg 256 bool 0 bool 0
theorem sz132 : szOf Tryd.prog 132 = some 1:=by kernel_rfl
theorem ag132 : aggB Tryd.prog 132 = some false:=by kernel_rfl
theorem zr132 : zeroS Tryd.prog 132 = some (.d (.v (.pointer none))):=by kernel_rfl
theorem sz135 : szOf Tryd.prog 135 = some 1:=by kernel_rfl
theorem ag135 : aggB Tryd.prog 135 = some false:=by kernel_rfl
theorem zr135 : zeroS Tryd.prog 135 = some (.d (.v (.int .u32 0))):=by kernel_rfl
theorem un135 : Tryd.prog.underlying 135 = some (.int .u32):=by kernel_rfl
/-- All of them. -/
theorem TAS : (szOf Tryd.prog 2 = some 1) ∧ (aggB Tryd.prog 2 = some false) ∧ (zeroS Tryd.prog 2 = some (.d (.v (.int .i64 0)))) ∧ (Tryd.prog.underlying 2 = some (.int .i64)) ∧ (szOf Tryd.prog 3 = some 1) ∧ (aggB Tryd.prog 3 = some false) ∧ (zeroS Tryd.prog 3 = some (.d (.v (.int .i64 0)))) ∧ (Tryd.prog.underlying 3 = some (.int .i64)) ∧ (szOf Tryd.prog 4 = some 1) ∧ (aggB Tryd.prog 4 = some false) ∧ (zeroS Tryd.prog 4 = some (.d (.v (.bool false)))) ∧ (szOf Tryd.prog 5 = some 1) ∧ (aggB Tryd.prog 5 = some false) ∧ (zeroS Tryd.prog 5 = some (.d (.v (.int .u8 0)))) ∧ (Tryd.prog.underlying 5 = some (.int .u8)) ∧ (szOf Tryd.prog 9 = some 1) ∧ (aggB Tryd.prog 9 = some false) ∧ (zeroS Tryd.prog 9 = some (.d (.v (.string ⟨#[]⟩)))) ∧ (Tryd.prog.underlying 9 = some .string) ∧ (szOf Tryd.prog 22 = some 1) ∧ (aggB Tryd.prog 22 = some false) ∧ (zeroS Tryd.prog 22 = some (.nil)) ∧ (elemSz Tryd.prog 22 = some 1) ∧ (Tryd.prog.underlying 22 = some (.slice 9)) ∧ (elemBy Tryd.prog 22 = some 16) ∧ (elemZ Tryd.prog 22 = true) ∧ (szOf Tryd.prog 23 = some 1) ∧ (aggB Tryd.prog 23 = some false) ∧ (zeroS Tryd.prog 23 = some (.nil)) ∧ (elemSz Tryd.prog 23 = some 5) ∧ (Tryd.prog.underlying 23 = some (.slice 25)) ∧ (elemBy Tryd.prog 23 = some 80) ∧ (elemZ Tryd.prog 23 = true) ∧ (szOf Tryd.prog 24 = some 5) ∧ (aggB Tryd.prog 24 = some true) ∧ (zeroS Tryd.prog 24 = some (.agg [.d (.v (.int .i64 0)),.d (.v (.int .i64 0)),.d (.v (.string ⟨#[]⟩)),.nil,.nil])) ∧ (plcs Tryd.prog 24 = some [(0,1),(1,1),(2,1),(3,1),(4,1)]) ∧ (fldOf Tryd.prog 24 0 = some (0,1)) ∧ (partOf Tryd.prog 24 0 = some (0,1)) ∧ (fldOf Tryd.prog 24 1 = some (1,1)) ∧ (partOf Tryd.prog 24 1 = some (1,1)) ∧ (fldOf Tryd.prog 24 2 = some (2,1)) ∧ (partOf Tryd.prog 24 2 = some (2,1)) ∧ (fldOf Tryd.prog 24 3 = some (3,1)) ∧ (partOf Tryd.prog 24 3 = some (3,1)) ∧ (fldOf Tryd.prog 24 4 = some (4,1)) ∧ (partOf Tryd.prog 24 4 = some (4,1)) ∧ (szOf Tryd.prog 25 = some 5) ∧ (aggB Tryd.prog 25 = some true) ∧ (zeroS Tryd.prog 25 = some (.agg [.d (.v (.int .i64 0)),.d (.v (.int .i64 0)),.d (.v (.string ⟨#[]⟩)),.nil,.nil])) ∧ (plcs Tryd.prog 25 = some [(0,1),(1,1),(2,1),(3,1),(4,1)]) ∧ (fldOf Tryd.prog 25 0 = some (0,1)) ∧ (partOf Tryd.prog 25 0 = some (0,1)) ∧ (fldOf Tryd.prog 25 1 = some (1,1)) ∧ (partOf Tryd.prog 25 1 = some (1,1)) ∧ (fldOf Tryd.prog 25 2 = some (2,1)) ∧ (partOf Tryd.prog 25 2 = some (2,1)) ∧ (fldOf Tryd.prog 25 3 = some (3,1)) ∧ (partOf Tryd.prog 25 3 = some (3,1)) ∧ (fldOf Tryd.prog 25 4 = some (4,1)) ∧ (partOf Tryd.prog 25 4 = some (4,1)) ∧ (szOf Tryd.prog 26 = some 1) ∧ (aggB Tryd.prog 26 = some false) ∧ (zeroS Tryd.prog 26 = some (.nil)) ∧ (elemSz Tryd.prog 26 = some 4) ∧ (Tryd.prog.underlying 26 = some (.slice 72)) ∧ (elemBy Tryd.prog 26 = some 64) ∧ (elemZ Tryd.prog 26 = true) ∧ (szOf Tryd.prog 27 = some 1) ∧ (aggB Tryd.prog 27 = some false) ∧ (zeroS Tryd.prog 27 = some (.d (.v (.int .i64 0)))) ∧ (Tryd.prog.underlying 27 = some (.int .i64)) ∧ (szOf Tryd.prog 28 = some 1) ∧ (aggB Tryd.prog 28 = some false) ∧ (szOf Tryd.prog 33 = some 1) ∧ (aggB Tryd.prog 33 = some false) ∧ (szOf Tryd.prog 39 = some 1) ∧ (aggB Tryd.prog 39 = some false) ∧ (szOf Tryd.prog 43 = some 1) ∧ (aggB Tryd.prog 43 = some false) ∧ (szOf Tryd.prog 49 = some 1) ∧ (aggB Tryd.prog 49 = some true) ∧ (zeroS Tryd.prog 49 = some (.agg [.nil])) ∧ (plcs Tryd.prog 49 = some [(0,1)]) ∧ (fldOf Tryd.prog 49 0 = some (0,1)) ∧ (partOf Tryd.prog 49 0 = some (0,1)) ∧ (szOf Tryd.prog 50 = some 1) ∧ (aggB Tryd.prog 50 = some true) ∧ (zeroS Tryd.prog 50 = some (.agg [.nil])) ∧ (plcs Tryd.prog 50 = some [(0,1)]) ∧ (fldOf Tryd.prog 50 0 = some (0,1)) ∧ (partOf Tryd.prog 50 0 = some (0,1)) ∧ (szOf Tryd.prog 52 = some 1) ∧ (aggB Tryd.prog 52 = some false) ∧ (zeroS Tryd.prog 52 = some (.d (.v .nilFunc))) ∧ (szOf Tryd.prog 58 = some 2) ∧ (aggB Tryd.prog 58 = some true) ∧ (zeroS Tryd.prog 58 = some (.agg [.nil,.nil])) ∧ (plcs Tryd.prog 58 = some [(0,1),(1,1)]) ∧ (fldOf Tryd.prog 58 0 = some (0,1)) ∧ (partOf Tryd.prog 58 0 = some (0,1)) ∧ (fldOf Tryd.prog 58 1 = some (1,1)) ∧ (partOf Tryd.prog 58 1 = some (1,1)) ∧ (szOf Tryd.prog 59 = some 2) ∧ (aggB Tryd.prog 59 = some true) ∧ (zeroS Tryd.prog 59 = some (.agg [.nil,.nil])) ∧ (plcs Tryd.prog 59 = some [(0,1),(1,1)]) ∧ (fldOf Tryd.prog 59 0 = some (0,1)) ∧ (partOf Tryd.prog 59 0 = some (0,1)) ∧ (fldOf Tryd.prog 59 1 = some (1,1)) ∧ (partOf Tryd.prog 59 1 = some (1,1)) ∧ (szOf Tryd.prog 60 = some 1) ∧ (aggB Tryd.prog 60 = some false) ∧ (szOf Tryd.prog 62 = some 1) ∧ (aggB Tryd.prog 62 = some false) ∧ (szOf Tryd.prog 67 = some 1) ∧ (aggB Tryd.prog 67 = some false) ∧ (zeroS Tryd.prog 67 = some (.nil)) ∧ (elemSz Tryd.prog 67 = some 1) ∧ (Tryd.prog.underlying 67 = some (.slice 3)) ∧ (elemBy Tryd.prog 67 = some 8) ∧ (elemZ Tryd.prog 67 = true) ∧ (szOf Tryd.prog 71 = some 4) ∧ (aggB Tryd.prog 71 = some true) ∧ (zeroS Tryd.prog 71 = some (.agg [.d (.v (.int .i64 0)),.d (.v (.int .i64 0)),.nil,.nil])) ∧ (plcs Tryd.prog 71 = some [(0,1),(1,1),(2,1),(3,1)]) ∧ (fldOf Tryd.prog 71 0 = some (0,1)) ∧ (partOf Tryd.prog 71 0 = some (0,1)) ∧ (fldOf Tryd.prog 71 1 = some (1,1)) ∧ (partOf Tryd.prog 71 1 = some (1,1)) ∧ (fldOf Tryd.prog 71 2 = some (2,1)) ∧ (partOf Tryd.prog 71 2 = some (2,1)) ∧ (fldOf Tryd.prog 71 3 = some (3,1)) ∧ (partOf Tryd.prog 71 3 = some (3,1)) ∧ (szOf Tryd.prog 72 = some 4) ∧ (aggB Tryd.prog 72 = some true) ∧ (zeroS Tryd.prog 72 = some (.agg [.d (.v (.int .i64 0)),.d (.v (.int .i64 0)),.nil,.nil])) ∧ (plcs Tryd.prog 72 = some [(0,1),(1,1),(2,1),(3,1)]) ∧ (fldOf Tryd.prog 72 0 = some (0,1)) ∧ (partOf Tryd.prog 72 0 = some (0,1)) ∧ (fldOf Tryd.prog 72 1 = some (1,1)) ∧ (partOf Tryd.prog 72 1 = some (1,1)) ∧ (fldOf Tryd.prog 72 2 = some (2,1)) ∧ (partOf Tryd.prog 72 2 = some (2,1)) ∧ (fldOf Tryd.prog 72 3 = some (3,1)) ∧ (partOf Tryd.prog 72 3 = some (3,1)) ∧ (szOf Tryd.prog 83 = some 1) ∧ (aggB Tryd.prog 83 = some false) ∧ (zeroS Tryd.prog 83 = some (.d (.v (.map none)))) ∧ (Tryd.prog.underlying 83 = some (.map 3 3)) ∧ (mapOf Tryd.prog 83 = some (3,(.int .i64 0))) ∧ (szOf Tryd.prog 84 = some 1) ∧ (aggB Tryd.prog 84 = some false) ∧ (szOf Tryd.prog 89 = some 3) ∧ (aggB Tryd.prog 89 = some true) ∧ (zeroS Tryd.prog 89 = some (.agg [.d (.v (.int .i64 0)),.d (.v (.int .i64 0)),.d (.v (.bool false))])) ∧ (plcs Tryd.prog 89 = some [(0,1),(1,1),(2,1)]) ∧ (fldOf Tryd.prog 89 0 = some (0,1)) ∧ (partOf Tryd.prog 89 0 = some (0,1)) ∧ (fldOf Tryd.prog 89 1 = some (1,1)) ∧ (partOf Tryd.prog 89 1 = some (1,1)) ∧ (fldOf Tryd.prog 89 2 = some (2,1)) ∧ (partOf Tryd.prog 89 2 = some (2,1)) ∧ (szOf Tryd.prog 90 = some 3) ∧ (aggB Tryd.prog 90 = some true) ∧ (zeroS Tryd.prog 90 = some (.agg [.d (.v (.int .i64 0)),.d (.v (.int .i64 0)),.d (.v (.bool false))])) ∧ (plcs Tryd.prog 90 = some [(0,1),(1,1),(2,1)]) ∧ (fldOf Tryd.prog 90 0 = some (0,1)) ∧ (partOf Tryd.prog 90 0 = some (0,1)) ∧ (fldOf Tryd.prog 90 1 = some (1,1)) ∧ (partOf Tryd.prog 90 1 = some (1,1)) ∧ (fldOf Tryd.prog 90 2 = some (2,1)) ∧ (partOf Tryd.prog 90 2 = some (2,1)) ∧ (szOf Tryd.prog 91 = some 1) ∧ (aggB Tryd.prog 91 = some false) ∧ (zeroS Tryd.prog 91 = some (.d (.v (.map none)))) ∧ (Tryd.prog.underlying 91 = some (.map 90 3)) ∧ (mapOf Tryd.prog 91 = some (90,(.int .i64 0))) ∧ (szOf Tryd.prog 92 = some 4) ∧ (aggB Tryd.prog 92 = some true) ∧ (zeroS Tryd.prog 92 = some (.agg [.d (.v (.int .i64 0)),.d (.v (.int .i64 0)),.d (.v (.bool false)),.nil])) ∧ (plcs Tryd.prog 92 = some [(0,3),(3,1)]) ∧ (fldOf Tryd.prog 92 0 = some (0,3)) ∧ (partOf Tryd.prog 92 0 = some (0,3)) ∧ (fldOf Tryd.prog 92 1 = some (3,1)) ∧ (partOf Tryd.prog 92 1 = some (3,1)) ∧ (szOf Tryd.prog 93 = some 4) ∧ (aggB Tryd.prog 93 = some true) ∧ (zeroS Tryd.prog 93 = some (.agg [.d (.v (.int .i64 0)),.d (.v (.int .i64 0)),.d (.v (.bool false)),.nil])) ∧ (plcs Tryd.prog 93 = some [(0,3),(3,1)]) ∧ (fldOf Tryd.prog 93 0 = some (0,3)) ∧ (partOf Tryd.prog 93 0 = some (0,3)) ∧ (fldOf Tryd.prog 93 1 = some (3,1)) ∧ (partOf Tryd.prog 93 1 = some (3,1)) ∧ (szOf Tryd.prog 94 = some 1) ∧ (aggB Tryd.prog 94 = some false) ∧ (zeroS Tryd.prog 94 = some (.nil)) ∧ (elemSz Tryd.prog 94 = some 4) ∧ (Tryd.prog.underlying 94 = some (.slice 93)) ∧ (elemBy Tryd.prog 94 = some 48) ∧ (elemZ Tryd.prog 94 = true) ∧ (szOf Tryd.prog 95 = some 1) ∧ (aggB Tryd.prog 95 = some false) ∧ (zeroS Tryd.prog 95 = some (.nil)) ∧ (elemSz Tryd.prog 95 = some 4) ∧ (Tryd.prog.underlying 95 = some (.slice 99)) ∧ (elemBy Tryd.prog 95 = some 40) ∧ (elemZ Tryd.prog 95 = true) ∧ (szOf Tryd.prog 96 = some 1) ∧ (aggB Tryd.prog 96 = some false) ∧ (szOf Tryd.prog 98 = some 4) ∧ (aggB Tryd.prog 98 = some true) ∧ (zeroS Tryd.prog 98 = some (.agg [.d (.v (.string ⟨#[]⟩)),.d (.v (.int .i64 0)),.d (.v (.int .i64 0)),.d (.v (.bool false))])) ∧ (plcs Tryd.prog 98 = some [(0,1),(1,3)]) ∧ (fldOf Tryd.prog 98 0 = some (0,1)) ∧ (partOf Tryd.prog 98 0 = some (0,1)) ∧ (fldOf Tryd.prog 98 1 = some (1,3)) ∧ (partOf Tryd.prog 98 1 = some (1,3)) ∧ (szOf Tryd.prog 99 = some 4) ∧ (aggB Tryd.prog 99 = some true) ∧ (zeroS Tryd.prog 99 = some (.agg [.d (.v (.string ⟨#[]⟩)),.d (.v (.int .i64 0)),.d (.v (.int .i64 0)),.d (.v (.bool false))])) ∧ (plcs Tryd.prog 99 = some [(0,1),(1,3)]) ∧ (fldOf Tryd.prog 99 0 = some (0,1)) ∧ (partOf Tryd.prog 99 0 = some (0,1)) ∧ (fldOf Tryd.prog 99 1 = some (1,3)) ∧ (partOf Tryd.prog 99 1 = some (1,3)) ∧ (szOf Tryd.prog 103 = some 2) ∧ (aggB Tryd.prog 103 = some true) ∧ (zeroS Tryd.prog 103 = some (.agg [.d (.v (.int .i64 0)),.d (.v (.int .i64 0))])) ∧ (plcs Tryd.prog 103 = some [(0,1),(1,1)]) ∧ (fldOf Tryd.prog 103 0 = some (0,1)) ∧ (partOf Tryd.prog 103 0 = some (0,1)) ∧ (fldOf Tryd.prog 103 1 = some (1,1)) ∧ (partOf Tryd.prog 103 1 = some (1,1)) ∧ (szOf Tryd.prog 104 = some 1) ∧ (aggB Tryd.prog 104 = some false) ∧ (zeroS Tryd.prog 104 = some (.d (.v (.map none)))) ∧ (Tryd.prog.underlying 104 = some (.map 103 3)) ∧ (mapOf Tryd.prog 104 = some (103,(.int .i64 0))) ∧ (szOf Tryd.prog 105 = some 3) ∧ (aggB Tryd.prog 105 = some true) ∧ (zeroS Tryd.prog 105 = some (.agg [.d (.v (.int .i64 0)),.d (.v (.int .i64 0)),.nil])) ∧ (plcs Tryd.prog 105 = some [(0,2),(2,1)]) ∧ (fldOf Tryd.prog 105 0 = some (0,2)) ∧ (partOf Tryd.prog 105 0 = some (0,2)) ∧ (fldOf Tryd.prog 105 1 = some (2,1)) ∧ (partOf Tryd.prog 105 1 = some (2,1)) ∧ (szOf Tryd.prog 106 = some 3) ∧ (aggB Tryd.prog 106 = some true) ∧ (zeroS Tryd.prog 106 = some (.agg [.d (.v (.int .i64 0)),.d (.v (.int .i64 0)),.nil])) ∧ (plcs Tryd.prog 106 = some [(0,2),(2,1)]) ∧ (fldOf Tryd.prog 106 0 = some (0,2)) ∧ (partOf Tryd.prog 106 0 = some (0,2)) ∧ (fldOf Tryd.prog 106 1 = some (2,1)) ∧ (partOf Tryd.prog 106 1 = some (2,1)) ∧ (szOf Tryd.prog 107 = some 1) ∧ (aggB Tryd.prog 107 = some false) ∧ (zeroS Tryd.prog 107 = some (.nil)) ∧ (elemSz Tryd.prog 107 = some 3) ∧ (Tryd.prog.underlying 107 = some (.slice 106)) ∧ (elemBy Tryd.prog 107 = some 40) ∧ (elemZ Tryd.prog 107 = true) ∧ (szOf Tryd.prog 108 = some 1) ∧ (aggB Tryd.prog 108 = some false) ∧ (zeroS Tryd.prog 108 = some (.nil)) ∧ (elemSz Tryd.prog 108 = some 2) ∧ (Tryd.prog.underlying 108 = some (.slice 103)) ∧ (elemBy Tryd.prog 108 = some 16) ∧ (elemZ Tryd.prog 108 = true) ∧ (szOf Tryd.prog 109 = some 1) ∧ (aggB Tryd.prog 109 = some false) ∧ (szOf Tryd.prog 111 = some 1) ∧ (aggB Tryd.prog 111 = some false) ∧ (zeroS Tryd.prog 111 = some (.d (.v (.map none)))) ∧ (Tryd.prog.underlying 111 = some (.map 9 3)) ∧ (mapOf Tryd.prog 111 = some (9,(.int .i64 0))) ∧ (szOf Tryd.prog 113 = some 1) ∧ (aggB Tryd.prog 113 = some false) ∧ (szOf Tryd.prog 123 = some 1) ∧ (aggB Tryd.prog 123 = some false) ∧ (zeroS Tryd.prog 123 = some (.nil)) ∧ (elemSz Tryd.prog 123 = some 1) ∧ (Tryd.prog.underlying 123 = some (.slice 5)) ∧ (elemBy Tryd.prog 123 = some 1) ∧ (elemZ Tryd.prog 123 = true) ∧ (szOf Tryd.prog 127 = some 256) ∧ (aggB Tryd.prog 127 = some true) ∧ (zeroS Tryd.prog 127 = some (.agg [.d (.v (.bool false)),.d (.v (.bool false)),.d (.v (.bool false)),.d (.v (.bool false)),.d (.v (.bool false)),.d (.v (.bool false)),.d (.v (.bool false)),.d (.v (.bool false)),.d (.v (.bool false)),.d (.v (.bool false)),.d (.v (.bool false)),.d (.v (.bool false)),.d (.v (.bool false)),.d (.v (.bool false)),.d (.v (.bool false)),.d (.v (.bool false)),.d (.v (.bool false)),.d (.v (.bool false)),.d (.v (.bool false)),.d (.v (.bool false)),.d (.v (.bool false)),.d (.v (.bool false)),.d (.v (.bool false)),.d (.v (.bool false)),.d (.v (.bool false)),.d (.v (.bool false)),.d (.v (.bool false)),.d (.v (.bool false)),.d (.v (.bool false)),.d (.v (.bool false)),.d (.v (.bool false)),.d (.v (.bool false)),.d (.v (.bool false)),.d (.v (.bool false)),.d (.v (.bool false)),.d (.v (.bool false)),.d (.v (.bool false)),.d (.v (.bool false)),.d (.v (.bool false)),.d (.v (.bool false)),.d (.v (.bool false)),.d (.v (.bool false)),.d (.v (.bool false)),.d (.v (.bool false)),.d (.v (.bool false)),.d (.v (.bool false)),.d (.v (.bool false)),.d (.v (.bool false)),.d (.v (.bool false)),.d (.v (.bool false)),.d (.v (.bool false)),.d (.v (.bool false)),.d (.v (.bool false)),.d (.v (.bool false)),.d (.v (.bool false)),.d (.v (.bool false)),.d (.v (.bool false)),.d (.v (.bool false)),.d (.v (.bool false)),.d (.v (.bool false)),.d (.v (.bool false)),.d (.v (.bool false)),.d (.v (.bool false)),.d (.v (.bool false)),.d (.v (.bool false)),.d (.v (.bool false)),.d (.v (.bool false)),.d (.v (.bool false)),.d (.v (.bool false)),.d (.v (.bool false)),.d (.v (.bool false)),.d (.v (.bool false)),.d (.v (.bool false)),.d (.v (.bool false)),.d (.v (.bool false)),.d (.v (.bool false)),.d (.v (.bool false)),.d (.v (.bool false)),.d (.v (.bool false)),.d (.v (.bool false)),.d (.v (.bool false)),.d (.v (.bool false)),.d (.v (.bool false)),.d (.v (.bool false)),.d (.v (.bool false)),.d (.v (.bool false)),.d (.v (.bool false)),.d (.v (.bool false)),.d (.v (.bool false)),.d (.v (.bool false)),.d (.v (.bool false)),.d (.v (.bool false)),.d (.v (.bool false)),.d (.v (.bool false)),.d (.v (.bool false)),.d (.v (.bool false)),.d (.v (.bool false)),.d (.v (.bool false)),.d (.v (.bool false)),.d (.v (.bool false)),.d (.v (.bool false)),.d (.v (.bool false)),.d (.v (.bool false)),.d (.v (.bool false)),.d (.v (.bool false)),.d (.v (.bool false)),.d (.v (.bool false)),.d (.v (.bool false)),.d (.v (.bool false)),.d (.v (.bool false)),.d (.v (.bool false)),.d (.v (.bool false)),.d (.v (.bool false)),.d (.v (.bool false)),.d (.v (.bool false)),.d (.v (.bool false)),.d (.v (.bool false)),.d (.v (.bool false)),.d (.v (.bool false)),.d (.v (.bool false)),.d (.v (.bool false)),.d (.v (.bool false)),.d (.v (.bool false)),.d (.v (.bool false)),.d (.v (.bool false)),.d (.v (.bool false)),.d (.v (.bool false)),.d (.v (.bool false)),.d (.v (.bool false)),.d (.v (.bool false)),.d (.v (.bool false)),.d (.v (.bool false)),.d (.v (.bool false)),.d (.v (.bool false)),.d (.v (.bool false)),.d (.v (.bool false)),.d (.v (.bool false)),.d (.v (.bool false)),.d (.v (.bool false)),.d (.v (.bool false)),.d (.v (.bool false)),.d (.v (.bool false)),.d (.v (.bool false)),.d (.v (.bool false)),.d (.v (.bool false)),.d (.v (.bool false)),.d (.v (.bool false)),.d (.v (.bool false)),.d (.v (.bool false)),.d (.v (.bool false)),.d (.v (.bool false)),.d (.v (.bool false)),.d (.v (.bool false)),.d (.v (.bool false)),.d (.v (.bool false)),.d (.v (.bool false)),.d (.v (.bool false)),.d (.v (.bool false)),.d (.v (.bool false)),.d (.v (.bool false)),.d (.v (.bool false)),.d (.v (.bool false)),.d (.v (.bool false)),.d (.v (.bool false)),.d (.v (.bool false)),.d (.v (.bool false)),.d (.v (.bool false)),.d (.v (.bool false)),.d (.v (.bool false)),.d (.v (.bool false)),.d (.v (.bool false)),.d (.v (.bool false)),.d (.v (.bool false)),.d (.v (.bool false)),.d (.v (.bool false)),.d (.v (.bool false)),.d (.v (.bool false)),.d (.v (.bool false)),.d (.v (.bool false)),.d (.v (.bool false)),.d (.v (.bool false)),.d (.v (.bool false)),.d (.v (.bool false)),.d (.v (.bool false)),.d (.v (.bool false)),.d (.v (.bool false)),.d (.v (.bool false)),.d (.v (.bool false)),.d (.v (.bool false)),.d (.v (.bool false)),.d (.v (.bool false)),.d (.v (.bool false)),.d (.v (.bool false)),.d (.v (.bool false)),.d (.v (.bool false)),.d (.v (.bool false)),.d (.v (.bool false)),.d (.v (.bool false)),.d (.v (.bool false)),.d (.v (.bool false)),.d (.v (.bool false)),.d (.v (.bool false)),.d (.v (.bool false)),.d (.v (.bool false)),.d (.v (.bool false)),.d (.v (.bool false)),.d (.v (.bool false)),.d (.v (.bool false)),.d (.v (.bool false)),.d (.v (.bool false)),.d (.v (.bool false)),.d (.v (.bool false)),.d (.v (.bool false)),.d (.v (.bool false)),.d (.v (.bool false)),.d (.v (.bool false)),.d (.v (.bool false)),.d (.v (.bool false)),.d (.v (.bool false)),.d (.v (.bool false)),.d (.v (.bool false)),.d (.v (.bool false)),.d (.v (.bool false)),.d (.v (.bool false)),.d (.v (.bool false)),.d (.v (.bool false)),.d (.v (.bool false)),.d (.v (.bool false)),.d (.v (.bool false)),.d (.v (.bool false)),.d (.v (.bool false)),.d (.v (.bool false)),.d (.v (.bool false)),.d (.v (.bool false)),.d (.v (.bool false)),.d (.v (.bool false)),.d (.v (.bool false)),.d (.v (.bool false)),.d (.v (.bool false)),.d (.v (.bool false)),.d (.v (.bool false)),.d (.v (.bool false)),.d (.v (.bool false)),.d (.v (.bool false)),.d (.v (.bool false)),.d (.v (.bool false)),.d (.v (.bool false)),.d (.v (.bool false)),.d (.v (.bool false)),.d (.v (.bool false)),.d (.v (.bool false)),.d (.v (.bool false)),.d (.v (.bool false)),.d (.v (.bool false)),.d (.v (.bool false)),.d (.v (.bool false))])) ∧ (szOf Tryd.prog 128 = some 256) ∧ (aggB Tryd.prog 128 = some true) ∧ (zeroS Tryd.prog 128 = some (.agg [.d (.v (.bool false)),.d (.v (.bool false)),.d (.v (.bool false)),.d (.v (.bool false)),.d (.v (.bool false)),.d (.v (.bool false)),.d (.v (.bool false)),.d (.v (.bool false)),.d (.v (.bool false)),.d (.v (.bool false)),.d (.v (.bool false)),.d (.v (.bool false)),.d (.v (.bool false)),.d (.v (.bool false)),.d (.v (.bool false)),.d (.v (.bool false)),.d (.v (.bool false)),.d (.v (.bool false)),.d (.v (.bool false)),.d (.v (.bool false)),.d (.v (.bool false)),.d (.v (.bool false)),.d (.v (.bool false)),.d (.v (.bool false)),.d (.v (.bool false)),.d (.v (.bool false)),.d (.v (.bool false)),.d (.v (.bool false)),.d (.v (.bool false)),.d (.v (.bool false)),.d (.v (.bool false)),.d (.v (.bool false)),.d (.v (.bool false)),.d (.v (.bool false)),.d (.v (.bool false)),.d (.v (.bool false)),.d (.v (.bool false)),.d (.v (.bool false)),.d (.v (.bool false)),.d (.v (.bool false)),.d (.v (.bool false)),.d (.v (.bool false)),.d (.v (.bool false)),.d (.v (.bool false)),.d (.v (.bool false)),.d (.v (.bool false)),.d (.v (.bool false)),.d (.v (.bool false)),.d (.v (.bool false)),.d (.v (.bool false)),.d (.v (.bool false)),.d (.v (.bool false)),.d (.v (.bool false)),.d (.v (.bool false)),.d (.v (.bool false)),.d (.v (.bool false)),.d (.v (.bool false)),.d (.v (.bool false)),.d (.v (.bool false)),.d (.v (.bool false)),.d (.v (.bool false)),.d (.v (.bool false)),.d (.v (.bool false)),.d (.v (.bool false)),.d (.v (.bool false)),.d (.v (.bool false)),.d (.v (.bool false)),.d (.v (.bool false)),.d (.v (.bool false)),.d (.v (.bool false)),.d (.v (.bool false)),.d (.v (.bool false)),.d (.v (.bool false)),.d (.v (.bool false)),.d (.v (.bool false)),.d (.v (.bool false)),.d (.v (.bool false)),.d (.v (.bool false)),.d (.v (.bool false)),.d (.v (.bool false)),.d (.v (.bool false)),.d (.v (.bool false)),.d (.v (.bool false)),.d (.v (.bool false)),.d (.v (.bool false)),.d (.v (.bool false)),.d (.v (.bool false)),.d (.v (.bool false)),.d (.v (.bool false)),.d (.v (.bool false)),.d (.v (.bool false)),.d (.v (.bool false)),.d (.v (.bool false)),.d (.v (.bool false)),.d (.v (.bool false)),.d (.v (.bool false)),.d (.v (.bool false)),.d (.v (.bool false)),.d (.v (.bool false)),.d (.v (.bool false)),.d (.v (.bool false)),.d (.v (.bool false)),.d (.v (.bool false)),.d (.v (.bool false)),.d (.v (.bool false)),.d (.v (.bool false)),.d (.v (.bool false)),.d (.v (.bool false)),.d (.v (.bool false)),.d (.v (.bool false)),.d (.v (.bool false)),.d (.v (.bool false)),.d (.v (.bool false)),.d (.v (.bool false)),.d (.v (.bool false)),.d (.v (.bool false)),.d (.v (.bool false)),.d (.v (.bool false)),.d (.v (.bool false)),.d (.v (.bool false)),.d (.v (.bool false)),.d (.v (.bool false)),.d (.v (.bool false)),.d (.v (.bool false)),.d (.v (.bool false)),.d (.v (.bool false)),.d (.v (.bool false)),.d (.v (.bool false)),.d (.v (.bool false)),.d (.v (.bool false)),.d (.v (.bool false)),.d (.v (.bool false)),.d (.v (.bool false)),.d (.v (.bool false)),.d (.v (.bool false)),.d (.v (.bool false)),.d (.v (.bool false)),.d (.v (.bool false)),.d (.v (.bool false)),.d (.v (.bool false)),.d (.v (.bool false)),.d (.v (.bool false)),.d (.v (.bool false)),.d (.v (.bool false)),.d (.v (.bool false)),.d (.v (.bool false)),.d (.v (.bool false)),.d (.v (.bool false)),.d (.v (.bool false)),.d (.v (.bool false)),.d (.v (.bool false)),.d (.v (.bool false)),.d (.v (.bool false)),.d (.v (.bool false)),.d (.v (.bool false)),.d (.v (.bool false)),.d (.v (.bool false)),.d (.v (.bool false)),.d (.v (.bool false)),.d (.v (.bool false)),.d (.v (.bool false)),.d (.v (.bool false)),.d (.v (.bool false)),.d (.v (.bool false)),.d (.v (.bool false)),.d (.v (.bool false)),.d (.v (.bool false)),.d (.v (.bool false)),.d (.v (.bool false)),.d (.v (.bool false)),.d (.v (.bool false)),.d (.v (.bool false)),.d (.v (.bool false)),.d (.v (.bool false)),.d (.v (.bool false)),.d (.v (.bool false)),.d (.v (.bool false)),.d (.v (.bool false)),.d (.v (.bool false)),.d (.v (.bool false)),.d (.v (.bool false)),.d (.v (.bool false)),.d (.v (.bool false)),.d (.v (.bool false)),.d (.v (.bool false)),.d (.v (.bool false)),.d (.v (.bool false)),.d (.v (.bool false)),.d (.v (.bool false)),.d (.v (.bool false)),.d (.v (.bool false)),.d (.v (.bool false)),.d (.v (.bool false)),.d (.v (.bool false)),.d (.v (.bool false)),.d (.v (.bool false)),.d (.v (.bool false)),.d (.v (.bool false)),.d (.v (.bool false)),.d (.v (.bool false)),.d (.v (.bool false)),.d (.v (.bool false)),.d (.v (.bool false)),.d (.v (.bool false)),.d (.v (.bool false)),.d (.v (.bool false)),.d (.v (.bool false)),.d (.v (.bool false)),.d (.v (.bool false)),.d (.v (.bool false)),.d (.v (.bool false)),.d (.v (.bool false)),.d (.v (.bool false)),.d (.v (.bool false)),.d (.v (.bool false)),.d (.v (.bool false)),.d (.v (.bool false)),.d (.v (.bool false)),.d (.v (.bool false)),.d (.v (.bool false)),.d (.v (.bool false)),.d (.v (.bool false)),.d (.v (.bool false)),.d (.v (.bool false)),.d (.v (.bool false)),.d (.v (.bool false)),.d (.v (.bool false)),.d (.v (.bool false)),.d (.v (.bool false)),.d (.v (.bool false)),.d (.v (.bool false)),.d (.v (.bool false)),.d (.v (.bool false)),.d (.v (.bool false)),.d (.v (.bool false)),.d (.v (.bool false)),.d (.v (.bool false)),.d (.v (.bool false)),.d (.v (.bool false)),.d (.v (.bool false)),.d (.v (.bool false)),.d (.v (.bool false)),.d (.v (.bool false)),.d (.v (.bool false)),.d (.v (.bool false)),.d (.v (.bool false)),.d (.v (.bool false)),.d (.v (.bool false)),.d (.v (.bool false)),.d (.v (.bool false)),.d (.v (.bool false)),.d (.v (.bool false)),.d (.v (.bool false)),.d (.v (.bool false)),.d (.v (.bool false)),.d (.v (.bool false))])) ∧ (szOf Tryd.prog 129 = some 1) ∧ (aggB Tryd.prog 129 = some false) ∧ (szOf Tryd.prog 132 = some 1) ∧ (aggB Tryd.prog 132 = some false) ∧ (zeroS Tryd.prog 132 = some (.d (.v (.pointer none)))) ∧ (szOf Tryd.prog 135 = some 1) ∧ (aggB Tryd.prog 135 = some false) ∧ (zeroS Tryd.prog 135 = some (.d (.v (.int .u32 0)))) ∧ (Tryd.prog.underlying 135 = some (.int .u32)):=⟨sz2,ag2,zr2,un2,sz3,ag3,zr3,un3,sz4,ag4,zr4,sz5,ag5,zr5,un5,sz9,ag9,zr9,un9,sz22,ag22,zr22,el22,un22,by22,ez22,sz23,ag23,zr23,el23,un23,by23,ez23,sz24,ag24,zr24,pl24,fl24_0,pt24_0,fl24_1,pt24_1,fl24_2,pt24_2,fl24_3,pt24_3,fl24_4,pt24_4,sz25,ag25,zr25,pl25,fl25_0,pt25_0,fl25_1,pt25_1,fl25_2,pt25_2,fl25_3,pt25_3,fl25_4,pt25_4,sz26,ag26,zr26,el26,un26,by26,ez26,sz27,ag27,zr27,un27,sz28,ag28,sz33,ag33,sz39,ag39,sz43,ag43,sz49,ag49,zr49,pl49,fl49_0,pt49_0,sz50,ag50,zr50,pl50,fl50_0,pt50_0,sz52,ag52,zr52,sz58,ag58,zr58,pl58,fl58_0,pt58_0,fl58_1,pt58_1,sz59,ag59,zr59,pl59,fl59_0,pt59_0,fl59_1,pt59_1,sz60,ag60,sz62,ag62,sz67,ag67,zr67,el67,un67,by67,ez67,sz71,ag71,zr71,pl71,fl71_0,pt71_0,fl71_1,pt71_1,fl71_2,pt71_2,fl71_3,pt71_3,sz72,ag72,zr72,pl72,fl72_0,pt72_0,fl72_1,pt72_1,fl72_2,pt72_2,fl72_3,pt72_3,sz83,ag83,zr83,un83,mo83,sz84,ag84,sz89,ag89,zr89,pl89,fl89_0,pt89_0,fl89_1,pt89_1,fl89_2,pt89_2,sz90,ag90,zr90,pl90,fl90_0,pt90_0,fl90_1,pt90_1,fl90_2,pt90_2,sz91,ag91,zr91,un91,mo91,sz92,ag92,zr92,pl92,fl92_0,pt92_0,fl92_1,pt92_1,sz93,ag93,zr93,pl93,fl93_0,pt93_0,fl93_1,pt93_1,sz94,ag94,zr94,el94,un94,by94,ez94,sz95,ag95,zr95,el95,un95,by95,ez95,sz96,ag96,sz98,ag98,zr98,pl98,fl98_0,pt98_0,fl98_1,pt98_1,sz99,ag99,zr99,pl99,fl99_0,pt99_0,fl99_1,pt99_1,sz103,ag103,zr103,pl103,fl103_0,pt103_0,fl103_1,pt103_1,sz104,ag104,zr104,un104,mo104,sz105,ag105,zr105,pl105,fl105_0,pt105_0,fl105_1,pt105_1,sz106,ag106,zr106,pl106,fl106_0,pt106_0,fl106_1,pt106_1,sz107,ag107,zr107,el107,un107,by107,ez107,sz108,ag108,zr108,el108,un108,by108,ez108,sz109,ag109,sz111,ag111,zr111,un111,mo111,sz113,ag113,sz123,ag123,zr123,el123,un123,by123,ez123,sz127,ag127,zr127,sz128,ag128,zr128,sz129,ag129,sz132,ag132,zr132,sz135,ag135,zr135,un135⟩
end Go.Proofs.YtnclmjbkkgghhaaDoor
