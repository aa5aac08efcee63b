/- Contracts of Go library functions, out of the library that holds for every program, at the numbers of this one. The conditions stand ahead of each. -/
import Derived.Shelf.Strings.Trim
import Derived.Shelf.Strings.SlTrimAscii
import Derived.Shelf.Strings.Builder1
import Derived.Shelf.Strings.BuilderF
import Derived.Shelf.Strings.BuilderK
import Derived.Shelf.Strings.OnBuilder
import Derived.Shelf.Small.Strs
import Derived.Shelf.Small.Utf8
import Derived.Shelf.LaysM
import Derived.Shelf.Strings.Search1
import Derived.Shelf.Strconv.Clone
import Derived.Below
import Derived.Test.YtdcplkefmpjppaaDoorProg
set_option linter.unusedVariables false
namespace Go.Proofs
open Go.Shelf Go.RowKit Go.Lib Go
def Tryd.lays156_ren : Go.Shelf.Ren:=⟨fun | 156=>51 | 165=>78 | 166=>79 | 169=>80 | 240=>102 | 241=>103 | 276=>124 | 277=>125 | n=>n,fun | 31=>22 | 9=>9 | 3=>3 | 4=>4 | 0=>0 | 20=>20 | 72=>134 | 76=>138 | 70=>132 | 37=>93 | 75=>137 | 127=>157 | 164=>179 | 5=>5 | 80=>128 | n=>n,fun | n=>n⟩
theorem Tryd.lays156 : Go.Proofs.Lays.n156 Tryd.prog Tryd.lays156_ren := {
 mixed:=by kernel_rfl
 f156:=Tryd.func51.trans (congrArg some (by kernel_rfl))
 f165:=Tryd.func78.trans (congrArg some (by kernel_rfl))
 f166:=Tryd.func79.trans (congrArg some (by kernel_rfl))
 f169:=Tryd.func80.trans (congrArg some (by kernel_rfl))
 f240:=Tryd.func102.trans (congrArg some (by kernel_rfl))
 f241:=Tryd.func103.trans (congrArg some (by kernel_rfl))
 f276:=Tryd.func124.trans (congrArg some (by kernel_rfl))
 f277:=Tryd.func125.trans (congrArg some (by kernel_rfl))
 t0:=Tryd.underlying0
 a0:=Tryd.isAgg0
 z0:=Tryd.sizeOf0
 v0:=Tryd.zeroValue0
 t3:=Tryd.underlying3
 a3:=Tryd.isAgg3
 z3:=Tryd.sizeOf3
 v3:=Tryd.zeroValue3
 t4:=Tryd.underlying4
 a4:=Tryd.isAgg4
 z4:=Tryd.sizeOf4
 v4:=Tryd.zeroValue4
 t9:=Tryd.underlying9
 a9:=Tryd.isAgg9
 z9:=Tryd.sizeOf9
 v9:=Tryd.zeroValue9
 t20:=Tryd.underlying20
 a20:=Tryd.isAgg20
 z20:=Tryd.sizeOf20
 v20:=Tryd.zeroValue20
 t31:=Tryd.underlying22
 a31:=Tryd.isAgg22
 z31:=Tryd.sizeOf22
 v31:=Tryd.zeroValue22
 t37:=Tryd.underlying93
 a37:=Tryd.isAgg93
 z37:=Tryd.sizeOf93
 v37:=Tryd.zeroValue93
 t70:=Tryd.underlying132
 a70:=Tryd.isAgg132
 z70:=Tryd.sizeOf132
 v70:=Tryd.zeroValue132
 t72:=Tryd.underlying134
 a72:=Tryd.isAgg134
 z72:=Tryd.sizeOf134
 v72:=Tryd.zeroValue134
 t75:=Tryd.underlying137
 a75:=Tryd.isAgg137
 z75:=Tryd.sizeOf137
 v75:=Tryd.zeroValue137
 t76:=Tryd.underlying138
 a76:=Tryd.isAgg138
 z76:=Tryd.sizeOf138
 v76:=Tryd.zeroValue138
 t127:=Tryd.underlying157
 a127:=Tryd.isAgg157
 z127:=Tryd.sizeOf157
 v127:=Tryd.zeroValue157
 t164:=Tryd.underlying179
 a164:=Tryd.isAgg179
 z164:=Tryd.sizeOf179
 v164:=Tryd.zeroValue179 }
theorem Tryd.Builder_Extra_156 : Builder.Extra Tryd.prog Tryd.lays156_ren := {
 sizeBuilder:=by kernel_rfl
 liesBuilder:=by kernel_rfl
 t5:=Tryd.underlying5
 a5:=Tryd.isAgg5
 z5:=Tryd.sizeOf5
 v5:=Tryd.zeroValue5
 infoByte:=by kernel_rfl
 cellsByte:=by kernel_rfl
 sizeByte:=by kernel_rfl
 neB5:=by decide }
theorem Tryd.strings_Join_none (a : Option Addr) (c : Nat) (sep : ByteArray) (w : World) :
 Calls Tryd.prog 51 #[.slice a 0 c,.string sep] w fun e w'=>e = .returned (.string ⟨#[]⟩) ∧ w' = w:=Any.strings_Join_none Tryd.lays156 Tryd.Builder_Extra_156 a c sep w
theorem Tryd.strings_Join (bk o c : Nat) (xs : List ByteArray) (sep : ByteArray) (w : World) (hcells : ∀ (j : Nat) x,xs[j]? = some x → w.cell? ⟨bk,o + j,none⟩ = some (.string x)) (hbk : bk < w.heap.size) (hN : xs.length ≤ 140737488355328) (hcap : xs.length ≤ c) (hlen : (Lib.join (xs.map (·.data.toList)) sep.data.toList).length ≤ 140737488355328) :
 Calls Tryd.prog 51 #[.slice (some ⟨bk,o,none⟩) xs.length c,.string sep] w fun e w'=>e = .returned (.string ⟨(Lib.join (xs.map (·.data.toList)) sep.data.toList).toArray⟩) ∧ Below w.heap.size w w':=Any.strings_Join Tryd.lays156 Tryd.Builder_Extra_156 bk o c xs sep w hcells hbk hN hcap hlen
def Tryd.lays161_ren : Go.Shelf.Ren:=⟨fun | 161=>104 | 231=>105 | 227=>107 | 233=>108 | 235=>110 | 228=>126 | 197=>127 | 151=>128 | 260=>139 | 152=>140 | 137=>142 | 119=>143 | 224=>144 | 225=>145 | 217=>146 | 266=>147 | n=>n,fun | 9=>9 | 4=>4 | 3=>3 | 5=>5 | 117=>161 | 116=>160 | 0=>0 | 124=>164 | 105=>182 | 21=>21 | 119=>170 | 46=>98 | 139=>173 | 138=>172 | n=>n,fun | 3=>2 | 4=>3 | n=>n⟩
theorem Tryd.lays161 : Go.Proofs.Lays.n161 Tryd.prog Tryd.lays161_ren := {
 mixed:=by kernel_rfl
 f119:=Tryd.func143.trans (congrArg some (by kernel_rfl))
 f137:=Tryd.func142.trans (congrArg some (by kernel_rfl))
 f151:=Tryd.func128.trans (congrArg some (by kernel_rfl))
 f152:=Tryd.func140.trans (congrArg some (by kernel_rfl))
 f161:=Tryd.func104.trans (congrArg some (by kernel_rfl))
 f197:=Tryd.func127.trans (congrArg some (by kernel_rfl))
 f217:=Tryd.func146.trans (congrArg some (by kernel_rfl))
 f224:=Tryd.func144.trans (congrArg some (by kernel_rfl))
 f225:=Tryd.func145.trans (congrArg some (by kernel_rfl))
 f227:=Tryd.func107.trans (congrArg some (by kernel_rfl))
 f228:=Tryd.func126.trans (congrArg some (by kernel_rfl))
 f231:=Tryd.func105.trans (congrArg some (by kernel_rfl))
 f233:=Tryd.func108.trans (congrArg some (by kernel_rfl))
 f235:=Tryd.func110.trans (congrArg some (by kernel_rfl))
 f260:=Tryd.func139.trans (congrArg some (by kernel_rfl))
 f266:=Tryd.func147.trans (congrArg some (by kernel_rfl))
 t0:=Tryd.underlying0
 a0:=Tryd.isAgg0
 z0:=Tryd.sizeOf0
 v0:=Tryd.zeroValue0
 t3:=Tryd.underlying3
 a3:=Tryd.isAgg3
 z3:=Tryd.sizeOf3
 v3:=Tryd.zeroValue3
 t4:=Tryd.underlying4
 a4:=Tryd.isAgg4
 z4:=Tryd.sizeOf4
 v4:=Tryd.zeroValue4
 t5:=Tryd.underlying5
 a5:=Tryd.isAgg5
 z5:=Tryd.sizeOf5
 v5:=Tryd.zeroValue5
 t9:=Tryd.underlying9
 a9:=Tryd.isAgg9
 z9:=Tryd.sizeOf9
 v9:=Tryd.zeroValue9
 t21:=Tryd.underlying21
 a21:=Tryd.isAgg21
 z21:=Tryd.sizeOf21
 v21:=Tryd.zeroValue21
 t46:=Tryd.underlying98
 a46:=Tryd.isAgg98
 z46:=Tryd.sizeOf98
 v46:=Tryd.zeroValue98
 t105:=Tryd.underlying182
 a105:=Tryd.isAgg182
 z105:=Tryd.sizeOf182
 v105:=Tryd.zeroValue182
 t116:=Tryd.underlying160
 a116:=Tryd.isAgg160
 z116:=Tryd.sizeOf160
 t117:=Tryd.underlying161
 a117:=Tryd.isAgg161
 z117:=Tryd.sizeOf161
 v117:=Tryd.zeroValue161
 t119:=Tryd.underlying170
 a119:=Tryd.isAgg170
 z119:=Tryd.sizeOf170
 t124:=Tryd.underlying164
 a124:=Tryd.isAgg164
 z124:=Tryd.sizeOf164
 v124:=Tryd.zeroValue164
 t138:=Tryd.underlying172
 a138:=Tryd.isAgg172
 z138:=Tryd.sizeOf172
 v138:=Tryd.zeroValue172
 t139:=Tryd.underlying173
 a139:=Tryd.isAgg173
 z139:=Tryd.sizeOf173
 v139:=Tryd.zeroValue173
 g3:=by kernel_rfl
 g4:=by kernel_rfl }
def Tryd.laysM316_ren : Go.Shelf.Ren:=⟨fun | 316=>101 | n=>n,fun | 9=>9 | 3=>3 | 4=>4 | 37=>93 | 0=>0 | 127=>157 | 5=>5 | n=>n,fun | n=>n⟩
theorem Tryd.laysM316 : Go.Proofs.LaysM.n316 Tryd.prog Tryd.laysM316_ren := {
 mixed:=by kernel_rfl
 f316:=Tryd.func101.trans (congrArg some (by kernel_rfl))
 t0:=Tryd.underlying0
 a0:=Tryd.isAgg0
 z0:=Tryd.sizeOf0
 v0:=Tryd.zeroValue0
 t3:=Tryd.underlying3
 a3:=Tryd.isAgg3
 z3:=Tryd.sizeOf3
 v3:=Tryd.zeroValue3
 t4:=Tryd.underlying4
 a4:=Tryd.isAgg4
 z4:=Tryd.sizeOf4
 v4:=Tryd.zeroValue4
 t9:=Tryd.underlying9
 a9:=Tryd.isAgg9
 z9:=Tryd.sizeOf9
 v9:=Tryd.zeroValue9
 t37:=Tryd.underlying93
 a37:=Tryd.isAgg93
 z37:=Tryd.sizeOf93
 v37:=Tryd.zeroValue93
 t127:=Tryd.underlying157
 a127:=Tryd.isAgg157
 z127:=Tryd.sizeOf157
 v127:=Tryd.zeroValue157
 t5:=Tryd.underlying5
 a5:=Tryd.isAgg5
 z5:=Tryd.sizeOf5
 v5:=Tryd.zeroValue5
 i0:=by kernel_rfl
 i3:=by kernel_rfl
 i4:=by kernel_rfl
 i5:=by kernel_rfl
 i9:=by kernel_rfl
 i37:=by kernel_rfl
 i127:=by kernel_rfl }
theorem Tryd.stringslite_Clone (s : ByteArray) (w : World) (hlim : s.size ≤ 281474976710656) :
 Calls Tryd.prog 101 #[.string s] w fun e w'=>e = .returned (.string s) ∧ Below w.heap.size w w':=Any.stringslite_Clone Tryd.laysM316 s w hlim
theorem Tryd.strings_TrimLeft_ascii (s cutset : ByteArray) (w : World) (hcs : cutset.size < 4294967281) (hascii : ∀ (j : Nat) b,cutset.data.toList[j]? = some b → b.toNat < 128) :
 Calls Tryd.prog 104 #[.string s,.string cutset] w fun e w'=>e = .returned (.string ⟨(Lib.trimLeftS s.data.toList cutset.data.toList).toArray⟩) ∧ Below w.heap.size w w':=Any.strings_TrimLeft_laid Tryd.lays161 (by kernel_rfl) s cutset w hcs hascii
end Go.Proofs
