/- Contracts of Go library functions, out of the library that holds for every program, at the numbers of this one. The conditions stand ahead of each. -/
import Derived.Shelf.Strings.Trim
import Derived.Shelf.Strings.SlTrimAscii
import Derived.Shelf.Small.Strs
import Derived.Shelf.Small.Utf8
import Derived.Shelf.LaysM
import Derived.Shelf.Strings.Search1
import Derived.Shelf.Strconv.Itoa3
import Derived.Test.YtlnmkdbcdcknjaaDoorProg
set_option linter.unusedVariables false
namespace Go.Proofs
open Go.Shelf Go.RowKit Go.Lib Go.Sort
def Tryd.lays160_ren : Go.Shelf.Ren:=⟨fun | 160=>60 | 232=>80 | 231=>79 | 227=>81 | 234=>83 | 233=>82 | 236=>85 | 235=>84 | 228=>95 | 271=>98 | 151=>97 | 197=>96 | 120=>103 | 152=>102 | 260=>101 | 137=>104 | 119=>105 | 224=>106 | 225=>107 | 217=>108 | 266=>109 | n=>n,fun | 9=>9 | 4=>4 | 3=>3 | 5=>5 | 117=>127 | 116=>126 | 0=>0 | 124=>130 | 21=>21 | 105=>139 | 46=>93 | 119=>146 | 139=>149 | 138=>148 | n=>n,fun | 3=>2 | 4=>3 | n=>n⟩
theorem Tryd.lays160 : Go.Proofs.Lays.n160 Tryd.prog Tryd.lays160_ren := {
 mixed:=by kernel_rfl
 f119:=Tryd.func105.trans (congrArg some (by kernel_rfl))
 f120:=Tryd.func103.trans (congrArg some (by kernel_rfl))
 f137:=Tryd.func104.trans (congrArg some (by kernel_rfl))
 f151:=Tryd.func97.trans (congrArg some (by kernel_rfl))
 f152:=Tryd.func102.trans (congrArg some (by kernel_rfl))
 f160:=Tryd.func60.trans (congrArg some (by kernel_rfl))
 f197:=Tryd.func96.trans (congrArg some (by kernel_rfl))
 f217:=Tryd.func108.trans (congrArg some (by kernel_rfl))
 f224:=Tryd.func106.trans (congrArg some (by kernel_rfl))
 f225:=Tryd.func107.trans (congrArg some (by kernel_rfl))
 f227:=Tryd.func81.trans (congrArg some (by kernel_rfl))
 f228:=Tryd.func95.trans (congrArg some (by kernel_rfl))
 f231:=Tryd.func79.trans (congrArg some (by kernel_rfl))
 f232:=Tryd.func80.trans (congrArg some (by kernel_rfl))
 f233:=Tryd.func82.trans (congrArg some (by kernel_rfl))
 f234:=Tryd.func83.trans (congrArg some (by kernel_rfl))
 f235:=Tryd.func84.trans (congrArg some (by kernel_rfl))
 f236:=Tryd.func85.trans (congrArg some (by kernel_rfl))
 f260:=Tryd.func101.trans (congrArg some (by kernel_rfl))
 f266:=Tryd.func109.trans (congrArg some (by kernel_rfl))
 f271:=Tryd.func98.trans (congrArg some (by kernel_rfl))
 t0:=Tryd.underlying0
 a0:=Tryd.isAgg0
 z0:=Tryd.sizeOf0
 v0:=Tryd.zeroValue0
 t3:=Tryd.underlying3
 a3:=Tryd.isAgg3
 z3:=Tryd.sizeOf3
 v3:=Tryd.zeroValue3
 t4:=Tryd.underlying4
 a4:=Tryd.isAgg4
 z4:=Tryd.sizeOf4
 v4:=Tryd.zeroValue4
 t5:=Tryd.underlying5
 a5:=Tryd.isAgg5
 z5:=Tryd.sizeOf5
 v5:=Tryd.zeroValue5
 t9:=Tryd.underlying9
 a9:=Tryd.isAgg9
 z9:=Tryd.sizeOf9
 v9:=Tryd.zeroValue9
 t21:=Tryd.underlying21
 a21:=Tryd.isAgg21
 z21:=Tryd.sizeOf21
 v21:=Tryd.zeroValue21
 t46:=Tryd.underlying93
 a46:=Tryd.isAgg93
 z46:=Tryd.sizeOf93
 v46:=Tryd.zeroValue93
 t105:=Tryd.underlying139
 a105:=Tryd.isAgg139
 z105:=Tryd.sizeOf139
 v105:=Tryd.zeroValue139
 t116:=Tryd.underlying126
 a116:=Tryd.isAgg126
 z116:=Tryd.sizeOf126
 t117:=Tryd.underlying127
 a117:=Tryd.isAgg127
 z117:=Tryd.sizeOf127
 v117:=Tryd.zeroValue127
 t119:=Tryd.underlying146
 a119:=Tryd.isAgg146
 z119:=Tryd.sizeOf146
 t124:=Tryd.underlying130
 a124:=Tryd.isAgg130
 z124:=Tryd.sizeOf130
 v124:=Tryd.zeroValue130
 t138:=Tryd.underlying148
 a138:=Tryd.isAgg148
 z138:=Tryd.sizeOf148
 v138:=Tryd.zeroValue148
 t139:=Tryd.underlying149
 a139:=Tryd.isAgg149
 z139:=Tryd.sizeOf149
 v139:=Tryd.zeroValue149
 g3:=by kernel_rfl
 g4:=by kernel_rfl }
theorem Tryd.strings_Trim_ascii (s cutset : ByteArray) (w : World) (hs : s.size ≤ 9223372036854775807) (hcs : cutset.size < 4294967281) (hascii : ∀ (j : Nat) b,cutset.data.toList[j]? = some b → b.toNat < 128) :
 Calls Tryd.prog 60 #[.string s,.string cutset] w fun e w'=>e = .returned (.string ⟨(Lib.trimS s.data.toList cutset.data.toList).toArray⟩) ∧ Below w.heap.size w w':=Any.strings_Trim_laid Tryd.lays160 (by kernel_rfl) s cutset w hs hcs hascii
end Go.Proofs
