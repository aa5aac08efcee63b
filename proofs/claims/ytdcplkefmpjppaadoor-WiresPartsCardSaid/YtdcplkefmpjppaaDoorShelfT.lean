/- Contracts of Go library functions, out of the library that holds for every program, at the numbers of this one. The conditions stand ahead of each. -/
import Derived.Shelf.Strings.Trim
import Derived.Shelf.Strings.SlTrimAscii
import Derived.Shelf.Small.Strs
import Derived.Shelf.Small.Utf8
import Derived.Shelf.LaysM
import Derived.Shelf.Strings.Search1
import Derived.Shelf.Strconv.Itoa3
import Derived.Test.YtdcplkefmpjppaaDoorProg
set_option linter.unusedVariables false
namespace Go.Proofs
open Go.Shelf Go.RowKit Go.Lib Go.Sort
def Tryd.lays160_ren : Go.Shelf.Ren:=⟨fun | 160=>82 | 232=>106 | 231=>105 | 227=>107 | 234=>109 | 233=>108 | 236=>111 | 235=>110 | 228=>126 | 271=>129 | 151=>128 | 197=>127 | 120=>141 | 152=>140 | 260=>139 | 137=>142 | 119=>143 | 224=>144 | 225=>145 | 217=>146 | 266=>147 | n=>n,fun | 9=>9 | 4=>4 | 3=>3 | 5=>5 | 117=>161 | 116=>160 | 0=>0 | 124=>164 | 21=>21 | 105=>182 | 46=>98 | 119=>170 | 139=>173 | 138=>172 | n=>n,fun | 3=>2 | 4=>3 | n=>n⟩
theorem Tryd.lays160 : Go.Proofs.Lays.n160 Tryd.prog Tryd.lays160_ren := {
 mixed:=by kernel_rfl
 f119:=Tryd.func143.trans (congrArg some (by kernel_rfl))
 f120:=Tryd.func141.trans (congrArg some (by kernel_rfl))
 f137:=Tryd.func142.trans (congrArg some (by kernel_rfl))
 f151:=Tryd.func128.trans (congrArg some (by kernel_rfl))
 f152:=Tryd.func140.trans (congrArg some (by kernel_rfl))
 f160:=Tryd.func82.trans (congrArg some (by kernel_rfl))
 f197:=Tryd.func127.trans (congrArg some (by kernel_rfl))
 f217:=Tryd.func146.trans (congrArg some (by kernel_rfl))
 f224:=Tryd.func144.trans (congrArg some (by kernel_rfl))
 f225:=Tryd.func145.trans (congrArg some (by kernel_rfl))
 f227:=Tryd.func107.trans (congrArg some (by kernel_rfl))
 f228:=Tryd.func126.trans (congrArg some (by kernel_rfl))
 f231:=Tryd.func105.trans (congrArg some (by kernel_rfl))
 f232:=Tryd.func106.trans (congrArg some (by kernel_rfl))
 f233:=Tryd.func108.trans (congrArg some (by kernel_rfl))
 f234:=Tryd.func109.trans (congrArg some (by kernel_rfl))
 f235:=Tryd.func110.trans (congrArg some (by kernel_rfl))
 f236:=Tryd.func111.trans (congrArg some (by kernel_rfl))
 f260:=Tryd.func139.trans (congrArg some (by kernel_rfl))
 f266:=Tryd.func147.trans (congrArg some (by kernel_rfl))
 f271:=Tryd.func129.trans (congrArg some (by kernel_rfl))
 t0:=Tryd.underlying0
 a0:=Tryd.isAgg0
 z0:=Tryd.sizeOf0
 v0:=Tryd.zeroValue0
 t3:=Tryd.underlying3
 a3:=Tryd.isAgg3
 z3:=Tryd.sizeOf3
 v3:=Tryd.zeroValue3
 t4:=Tryd.underlying4
 a4:=Tryd.isAgg4
 z4:=Tryd.sizeOf4
 v4:=Tryd.zeroValue4
 t5:=Tryd.underlying5
 a5:=Tryd.isAgg5
 z5:=Tryd.sizeOf5
 v5:=Tryd.zeroValue5
 t9:=Tryd.underlying9
 a9:=Tryd.isAgg9
 z9:=Tryd.sizeOf9
 v9:=Tryd.zeroValue9
 t21:=Tryd.underlying21
 a21:=Tryd.isAgg21
 z21:=Tryd.sizeOf21
 v21:=Tryd.zeroValue21
 t46:=Tryd.underlying98
 a46:=Tryd.isAgg98
 z46:=Tryd.sizeOf98
 v46:=Tryd.zeroValue98
 t105:=Tryd.underlying182
 a105:=Tryd.isAgg182
 z105:=Tryd.sizeOf182
 v105:=Tryd.zeroValue182
 t116:=Tryd.underlying160
 a116:=Tryd.isAgg160
 z116:=Tryd.sizeOf160
 t117:=Tryd.underlying161
 a117:=Tryd.isAgg161
 z117:=Tryd.sizeOf161
 v117:=Tryd.zeroValue161
 t119:=Tryd.underlying170
 a119:=Tryd.isAgg170
 z119:=Tryd.sizeOf170
 t124:=Tryd.underlying164
 a124:=Tryd.isAgg164
 z124:=Tryd.sizeOf164
 v124:=Tryd.zeroValue164
 t138:=Tryd.underlying172
 a138:=Tryd.isAgg172
 z138:=Tryd.sizeOf172
 v138:=Tryd.zeroValue172
 t139:=Tryd.underlying173
 a139:=Tryd.isAgg173
 z139:=Tryd.sizeOf173
 v139:=Tryd.zeroValue173
 g3:=by kernel_rfl
 g4:=by kernel_rfl }
theorem Tryd.strings_Trim_ascii (s cutset : ByteArray) (w : World) (hs : s.size ≤ 9223372036854775807) (hcs : cutset.size < 4294967281) (hascii : ∀ (j : Nat) b,cutset.data.toList[j]? = some b → b.toNat < 128) :
 Calls Tryd.prog 82 #[.string s,.string cutset] w fun e w'=>e = .returned (.string ⟨(Lib.trimS s.data.toList cutset.data.toList).toArray⟩) ∧ Below w.heap.size w w':=Any.strings_Trim_laid Tryd.lays160 (by kernel_rfl) s cutset w hs hcs hascii
end Go.Proofs
