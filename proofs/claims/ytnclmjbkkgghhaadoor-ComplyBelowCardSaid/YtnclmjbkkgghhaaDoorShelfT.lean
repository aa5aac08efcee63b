/- Contracts of Go library functions, out of the library that holds for every program, at the numbers of this one. The conditions stand ahead of each. -/
import Derived.Shelf.Strings.Trim
import Derived.Shelf.Strings.SlTrimAscii
import Derived.Shelf.Small.Strs
import Derived.Shelf.Small.Utf8
import Derived.Shelf.LaysM
import Derived.Shelf.Strings.Search1
import Derived.Shelf.Strconv.Itoa3
import Derived.Test.YtnclmjbkkgghhaaDoorProg
set_option linter.unusedVariables false
namespace Go.Proofs
open Go.Shelf Go.RowKit Go.Lib Go.Sort
def Tryd.lays160_ren : Go.Shelf.Ren:=⟨fun | 160=>79 | 232=>85 | 231=>84 | 227=>86 | 234=>88 | 233=>87 | 236=>90 | 235=>89 | 228=>96 | 271=>99 | 151=>98 | 197=>97 | 120=>104 | 152=>103 | 260=>102 | 137=>105 | 119=>106 | 224=>107 | 225=>108 | 217=>109 | 266=>110 | n=>n,fun | 9=>9 | 4=>4 | 3=>3 | 5=>5 | 117=>129 | 116=>128 | 0=>0 | 124=>132 | 21=>21 | 105=>141 | 46=>138 | 119=>148 | 139=>151 | 138=>150 | n=>n,fun | 3=>3 | 4=>4 | n=>n⟩
theorem Tryd.lays160 : Go.Proofs.Lays.n160 Tryd.prog Tryd.lays160_ren := {
  mixed:=by kernel_rfl
  f119:=Tryd.func106.trans (congrArg some (by kernel_rfl))
  f120:=Tryd.func104.trans (congrArg some (by kernel_rfl))
  f137:=Tryd.func105.trans (congrArg some (by kernel_rfl))
  f151:=Tryd.func98.trans (congrArg some (by kernel_rfl))
  f152:=Tryd.func103.trans (congrArg some (by kernel_rfl))
  f160:=Tryd.func79.trans (congrArg some (by kernel_rfl))
  f197:=Tryd.func97.trans (congrArg some (by kernel_rfl))
  f217:=Tryd.func109.trans (congrArg some (by kernel_rfl))
  f224:=Tryd.func107.trans (congrArg some (by kernel_rfl))
  f225:=Tryd.func108.trans (congrArg some (by kernel_rfl))
  f227:=Tryd.func86.trans (congrArg some (by kernel_rfl))
  f228:=Tryd.func96.trans (congrArg some (by kernel_rfl))
  f231:=Tryd.func84.trans (congrArg some (by kernel_rfl))
  f232:=Tryd.func85.trans (congrArg some (by kernel_rfl))
  f233:=Tryd.func87.trans (congrArg some (by kernel_rfl))
  f234:=Tryd.func88.trans (congrArg some (by kernel_rfl))
  f235:=Tryd.func89.trans (congrArg some (by kernel_rfl))
  f236:=Tryd.func90.trans (congrArg some (by kernel_rfl))
  f260:=Tryd.func102.trans (congrArg some (by kernel_rfl))
  f266:=Tryd.func110.trans (congrArg some (by kernel_rfl))
  f271:=Tryd.func99.trans (congrArg some (by kernel_rfl))
  t0:=Tryd.underlying0
  a0:=Tryd.isAgg0
  z0:=Tryd.sizeOf0
  v0:=Tryd.zeroValue0
  t3:=Tryd.underlying3
  a3:=Tryd.isAgg3
  z3:=Tryd.sizeOf3
  v3:=Tryd.zeroValue3
  t4:=Tryd.underlying4
  a4:=Tryd.isAgg4
  z4:=Tryd.sizeOf4
  v4:=Tryd.zeroValue4
  t5:=Tryd.underlying5
  a5:=Tryd.isAgg5
  z5:=Tryd.sizeOf5
  v5:=Tryd.zeroValue5
  t9:=Tryd.underlying9
  a9:=Tryd.isAgg9
  z9:=Tryd.sizeOf9
  v9:=Tryd.zeroValue9
  t21:=Tryd.underlying21
  a21:=Tryd.isAgg21
  z21:=Tryd.sizeOf21
  v21:=Tryd.zeroValue21
  t46:=Tryd.underlying138
  a46:=Tryd.isAgg138
  z46:=Tryd.sizeOf138
  v46:=Tryd.zeroValue138
  t105:=Tryd.underlying141
  a105:=Tryd.isAgg141
  z105:=Tryd.sizeOf141
  v105:=Tryd.zeroValue141
  t116:=Tryd.underlying128
  a116:=Tryd.isAgg128
  z116:=Tryd.sizeOf128
  t117:=Tryd.underlying129
  a117:=Tryd.isAgg129
  z117:=Tryd.sizeOf129
  v117:=Tryd.zeroValue129
  t119:=Tryd.underlying148
  a119:=Tryd.isAgg148
  z119:=Tryd.sizeOf148
  t124:=Tryd.underlying132
  a124:=Tryd.isAgg132
  z124:=Tryd.sizeOf132
  v124:=Tryd.zeroValue132
  t138:=Tryd.underlying150
  a138:=Tryd.isAgg150
  z138:=Tryd.sizeOf150
  v138:=Tryd.zeroValue150
  t139:=Tryd.underlying151
  a139:=Tryd.isAgg151
  z139:=Tryd.sizeOf151
  v139:=Tryd.zeroValue151
  g3:=by kernel_rfl
  g4:=by kernel_rfl }
theorem Tryd.strings_Trim_ascii (s cutset : ByteArray) (w : World) (hs : s.size ≤ 9223372036854775807) (hcs : cutset.size < 4294967281) (hascii : ∀ (j : Nat) b,cutset.data.toList[j]? = some b → b.toNat < 128) :
    Calls Tryd.prog 79 #[.string s,.string cutset] w fun e w'=>e = .returned (.string ⟨(Lib.trimS s.data.toList cutset.data.toList).toArray⟩) ∧ Below w.heap.size w w':=Any.strings_Trim_laid Tryd.lays160 (by kernel_rfl) s cutset w hs hcs hascii
end Go.Proofs
