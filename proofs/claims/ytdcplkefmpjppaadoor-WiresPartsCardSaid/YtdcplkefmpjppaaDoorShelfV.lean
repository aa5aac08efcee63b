/- Contracts of Go library functions, out of the library that holds for every program, at the numbers of this one. The conditions stand ahead of each. -/
import Derived.Shelf.Unicode.ValidAny
import Derived.Shelf.Unicode.DecodeSlow
import Derived.Lib.LaidU8
import Derived.Test.YtdcplkefmpjppaaDoorProg
set_option linter.unusedVariables false
namespace Go.Proofs
open Go.Shelf Go.RowKit Go.Lib
def Tryd.lays196_ren : Go.Shelf.Ren:=⟨fun | 196=>98 | 259=>119 | n=>n,fun | 9=>9 | 4=>4 | 3=>3 | 5=>5 | 12=>12 | 119=>170 | 0=>0 | 46=>98 | 139=>173 | 138=>172 | 53=>97 | n=>n,fun | 3=>2 | 4=>3 | n=>n⟩
theorem Tryd.lays196 : Go.Proofs.Lays.n196 Tryd.prog Tryd.lays196_ren := {
 mixed:=by kernel_rfl
 f196:=Tryd.func98.trans (congrArg some (by kernel_rfl))
 f259:=Tryd.func119.trans (congrArg some (by kernel_rfl))
 t0:=Tryd.underlying0
 a0:=Tryd.isAgg0
 z0:=Tryd.sizeOf0
 v0:=Tryd.zeroValue0
 t3:=Tryd.underlying3
 a3:=Tryd.isAgg3
 z3:=Tryd.sizeOf3
 v3:=Tryd.zeroValue3
 t4:=Tryd.underlying4
 a4:=Tryd.isAgg4
 z4:=Tryd.sizeOf4
 v4:=Tryd.zeroValue4
 t5:=Tryd.underlying5
 a5:=Tryd.isAgg5
 z5:=Tryd.sizeOf5
 v5:=Tryd.zeroValue5
 t9:=Tryd.underlying9
 a9:=Tryd.isAgg9
 z9:=Tryd.sizeOf9
 v9:=Tryd.zeroValue9
 t12:=Tryd.underlying12
 a12:=Tryd.isAgg12
 z12:=Tryd.sizeOf12
 v12:=Tryd.zeroValue12
 t46:=Tryd.underlying98
 a46:=Tryd.isAgg98
 z46:=Tryd.sizeOf98
 v46:=Tryd.zeroValue98
 t53:=Tryd.underlying97
 a53:=Tryd.isAgg97
 z53:=Tryd.sizeOf97
 v53:=Tryd.zeroValue97
 t119:=Tryd.underlying170
 a119:=Tryd.isAgg170
 z119:=Tryd.sizeOf170
 t138:=Tryd.underlying172
 a138:=Tryd.isAgg172
 z138:=Tryd.sizeOf172
 v138:=Tryd.zeroValue172
 t139:=Tryd.underlying173
 a139:=Tryd.isAgg173
 z139:=Tryd.sizeOf173
 v139:=Tryd.zeroValue173
 g3:=by kernel_rfl
 g4:=by kernel_rfl }
theorem Tryd.utf8_ValidString (s : ByteArray) (w : World) (hs : s.size ≤ 9223372036854775807) (hT : Lib.Utf8Tabs 2 3 w) :
 Calls Tryd.prog 98 #[.string s] w fun e w'=>e = .returned (.bool (Lib.validD s.data.toList)) ∧ Below w.heap.size w w':=Any.utf8_ValidString Tryd.lays196 s w hs hT
def Tryd.lays260_ren : Go.Shelf.Ren:=⟨fun | 260=>139 | n=>n,fun | 9=>9 | 21=>21 | 3=>3 | 4=>4 | 5=>5 | 119=>170 | 0=>0 | 46=>98 | 139=>173 | 138=>172 | n=>n,fun | 3=>2 | 4=>3 | n=>n⟩
theorem Tryd.lays260 : Go.Proofs.Lays.n260 Tryd.prog Tryd.lays260_ren := {
 mixed:=by kernel_rfl
 f260:=Tryd.func139.trans (congrArg some (by kernel_rfl))
 t0:=Tryd.underlying0
 a0:=Tryd.isAgg0
 z0:=Tryd.sizeOf0
 v0:=Tryd.zeroValue0
 t3:=Tryd.underlying3
 a3:=Tryd.isAgg3
 z3:=Tryd.sizeOf3
 v3:=Tryd.zeroValue3
 t4:=Tryd.underlying4
 a4:=Tryd.isAgg4
 z4:=Tryd.sizeOf4
 v4:=Tryd.zeroValue4
 t5:=Tryd.underlying5
 a5:=Tryd.isAgg5
 z5:=Tryd.sizeOf5
 v5:=Tryd.zeroValue5
 t9:=Tryd.underlying9
 a9:=Tryd.isAgg9
 z9:=Tryd.sizeOf9
 v9:=Tryd.zeroValue9
 t21:=Tryd.underlying21
 a21:=Tryd.isAgg21
 z21:=Tryd.sizeOf21
 v21:=Tryd.zeroValue21
 t46:=Tryd.underlying98
 a46:=Tryd.isAgg98
 z46:=Tryd.sizeOf98
 v46:=Tryd.zeroValue98
 t119:=Tryd.underlying170
 a119:=Tryd.isAgg170
 z119:=Tryd.sizeOf170
 t138:=Tryd.underlying172
 a138:=Tryd.isAgg172
 z138:=Tryd.sizeOf172
 v138:=Tryd.zeroValue172
 t139:=Tryd.underlying173
 a139:=Tryd.isAgg173
 z139:=Tryd.sizeOf173
 v139:=Tryd.zeroValue173
 g3:=by kernel_rfl
 g4:=by kernel_rfl }
theorem Tryd.u8extra : U8Extra Tryd.prog Tryd.lays260_ren:=⟨by kernel_rfl,by kernel_rfl,by kernel_rfl,by kernel_rfl,by kernel_rfl,by kernel_rfl,by kernel_rfl⟩
end Go.Proofs
