/- Contracts of Go library functions, out of the library that holds for every program, at the numbers of this one. The conditions stand ahead of each. -/
import Derived.Shelf.Strings.Trim
import Derived.Shelf.Strings.SlTrimAscii
import Derived.Shelf.Small.Strs
import Derived.Shelf.Small.Utf8
import Derived.Shelf.LaysM
import Derived.Shelf.Strings.Search1
import Derived.Shelf.Strconv.Itoa3
import Derived.Test.YtgecnlcbdbaneaaDoorProg
set_option linter.unusedVariables false
namespace Go.Proofs
open Go.Shelf Go.RowKit Go.Lib Go.Sort
def Tryd.lays160_ren : Go.Shelf.Ren:=⟨fun | 160=>104 | 232=>121 | 231=>120 | 227=>122 | 234=>124 | 233=>123 | 236=>126 | 235=>125 | 228=>137 | 271=>140 | 151=>139 | 197=>138 | 120=>146 | 152=>145 | 260=>144 | 137=>147 | 119=>148 | 224=>149 | 225=>150 | 217=>151 | 266=>152 | n=>n,fun | 9=>9 | 4=>4 | 3=>3 | 5=>5 | 117=>181 | 116=>180 | 0=>0 | 124=>184 | 21=>21 | 105=>195 | 46=>156 | 119=>152 | 139=>155 | 138=>154 | n=>n,fun | 3=>0 | 4=>1 | n=>n⟩
theorem Tryd.lays160 : Go.Proofs.Lays.n160 Tryd.prog Tryd.lays160_ren := {
 mixed:=by kernel_rfl
 f119:=Tryd.func148.trans (congrArg some (by kernel_rfl))
 f120:=Tryd.func146.trans (congrArg some (by kernel_rfl))
 f137:=Tryd.func147.trans (congrArg some (by kernel_rfl))
 f151:=Tryd.func139.trans (congrArg some (by kernel_rfl))
 f152:=Tryd.func145.trans (congrArg some (by kernel_rfl))
 f160:=Tryd.func104.trans (congrArg some (by kernel_rfl))
 f197:=Tryd.func138.trans (congrArg some (by kernel_rfl))
 f217:=Tryd.func151.trans (congrArg some (by kernel_rfl))
 f224:=Tryd.func149.trans (congrArg some (by kernel_rfl))
 f225:=Tryd.func150.trans (congrArg some (by kernel_rfl))
 f227:=Tryd.func122.trans (congrArg some (by kernel_rfl))
 f228:=Tryd.func137.trans (congrArg some (by kernel_rfl))
 f231:=Tryd.func120.trans (congrArg some (by kernel_rfl))
 f232:=Tryd.func121.trans (congrArg some (by kernel_rfl))
 f233:=Tryd.func123.trans (congrArg some (by kernel_rfl))
 f234:=Tryd.func124.trans (congrArg some (by kernel_rfl))
 f235:=Tryd.func125.trans (congrArg some (by kernel_rfl))
 f236:=Tryd.func126.trans (congrArg some (by kernel_rfl))
 f260:=Tryd.func144.trans (congrArg some (by kernel_rfl))
 f266:=Tryd.func152.trans (congrArg some (by kernel_rfl))
 f271:=Tryd.func140.trans (congrArg some (by kernel_rfl))
 t0:=Tryd.underlying0
 a0:=Tryd.isAgg0
 z0:=Tryd.sizeOf0
 v0:=Tryd.zeroValue0
 t3:=Tryd.underlying3
 a3:=Tryd.isAgg3
 z3:=Tryd.sizeOf3
 v3:=Tryd.zeroValue3
 t4:=Tryd.underlying4
 a4:=Tryd.isAgg4
 z4:=Tryd.sizeOf4
 v4:=Tryd.zeroValue4
 t5:=Tryd.underlying5
 a5:=Tryd.isAgg5
 z5:=Tryd.sizeOf5
 v5:=Tryd.zeroValue5
 t9:=Tryd.underlying9
 a9:=Tryd.isAgg9
 z9:=Tryd.sizeOf9
 v9:=Tryd.zeroValue9
 t21:=Tryd.underlying21
 a21:=Tryd.isAgg21
 z21:=Tryd.sizeOf21
 v21:=Tryd.zeroValue21
 t46:=Tryd.underlying156
 a46:=Tryd.isAgg156
 z46:=Tryd.sizeOf156
 v46:=Tryd.zeroValue156
 t105:=Tryd.underlying195
 a105:=Tryd.isAgg195
 z105:=Tryd.sizeOf195
 v105:=Tryd.zeroValue195
 t116:=Tryd.underlying180
 a116:=Tryd.isAgg180
 z116:=Tryd.sizeOf180
 t117:=Tryd.underlying181
 a117:=Tryd.isAgg181
 z117:=Tryd.sizeOf181
 v117:=Tryd.zeroValue181
 t119:=Tryd.underlying152
 a119:=Tryd.isAgg152
 z119:=Tryd.sizeOf152
 t124:=Tryd.underlying184
 a124:=Tryd.isAgg184
 z124:=Tryd.sizeOf184
 v124:=Tryd.zeroValue184
 t138:=Tryd.underlying154
 a138:=Tryd.isAgg154
 z138:=Tryd.sizeOf154
 v138:=Tryd.zeroValue154
 t139:=Tryd.underlying155
 a139:=Tryd.isAgg155
 z139:=Tryd.sizeOf155
 v139:=Tryd.zeroValue155
 g3:=by kernel_rfl
 g4:=by kernel_rfl }
theorem Tryd.strings_Trim_ascii (s cutset : ByteArray) (w : World) (hs : s.size ≤ 9223372036854775807) (hcs : cutset.size < 4294967281) (hascii : ∀ (j : Nat) b,cutset.data.toList[j]? = some b → b.toNat < 128) :
 Calls Tryd.prog 104 #[.string s,.string cutset] w fun e w'=>e = .returned (.string ⟨(Lib.trimS s.data.toList cutset.data.toList).toArray⟩) ∧ Below w.heap.size w w':=Any.strings_Trim_laid Tryd.lays160 (by kernel_rfl) s cutset w hs hcs hascii
end Go.Proofs
