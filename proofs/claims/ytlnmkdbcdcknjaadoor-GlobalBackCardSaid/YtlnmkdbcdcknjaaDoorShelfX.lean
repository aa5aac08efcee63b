/- Contracts of Go library functions, out of the library that holds for every program, at the numbers of this one. The conditions stand ahead of each. -/
import Derived.Shelf.Strings.Trim
import Derived.Shelf.Strings.SlTrimAscii
import Derived.Shelf.Strings.Builder1
import Derived.Shelf.Strings.BuilderF
import Derived.Shelf.Strings.BuilderK
import Derived.Shelf.Strings.OnBuilder
import Derived.Shelf.Small.Strs
import Derived.Shelf.Small.Utf8
import Derived.Shelf.LaysM
import Derived.Shelf.Strings.Search1
import Derived.Shelf.Strconv.Clone
import Derived.Below
import Derived.Test.YtlnmkdbcdcknjaaDoorProg
set_option linter.unusedVariables false
namespace Go.Proofs
open Go.Shelf Go.RowKit Go.Lib Go
def Tryd.lays156_ren : Go.Shelf.Ren:=⟨fun | 156=>37 | 165=>56 | 166=>57 | 169=>58 | 240=>76 | 241=>77 | 276=>93 | 277=>94 | n=>n,fun | 31=>22 | 9=>9 | 3=>3 | 4=>4 | 0=>0 | 20=>20 | 72=>101 | 76=>105 | 70=>98 | 37=>99 | 75=>104 | 127=>123 | 164=>136 | 5=>5 | 80=>107 | n=>n,fun | n=>n⟩
theorem Tryd.lays156 : Go.Proofs.Lays.n156 Tryd.prog Tryd.lays156_ren := {
 mixed:=by kernel_rfl
 f156:=Tryd.func37.trans (congrArg some (by kernel_rfl))
 f165:=Tryd.func56.trans (congrArg some (by kernel_rfl))
 f166:=Tryd.func57.trans (congrArg some (by kernel_rfl))
 f169:=Tryd.func58.trans (congrArg some (by kernel_rfl))
 f240:=Tryd.func76.trans (congrArg some (by kernel_rfl))
 f241:=Tryd.func77.trans (congrArg some (by kernel_rfl))
 f276:=Tryd.func93.trans (congrArg some (by kernel_rfl))
 f277:=Tryd.func94.trans (congrArg some (by kernel_rfl))
 t0:=Tryd.underlying0
 a0:=Tryd.isAgg0
 z0:=Tryd.sizeOf0
 v0:=Tryd.zeroValue0
 t3:=Tryd.underlying3
 a3:=Tryd.isAgg3
 z3:=Tryd.sizeOf3
 v3:=Tryd.zeroValue3
 t4:=Tryd.underlying4
 a4:=Tryd.isAgg4
 z4:=Tryd.sizeOf4
 v4:=Tryd.zeroValue4
 t9:=Tryd.underlying9
 a9:=Tryd.isAgg9
 z9:=Tryd.sizeOf9
 v9:=Tryd.zeroValue9
 t20:=Tryd.underlying20
 a20:=Tryd.isAgg20
 z20:=Tryd.sizeOf20
 v20:=Tryd.zeroValue20
 t31:=Tryd.underlying22
 a31:=Tryd.isAgg22
 z31:=Tryd.sizeOf22
 v31:=Tryd.zeroValue22
 t37:=Tryd.underlying99
 a37:=Tryd.isAgg99
 z37:=Tryd.sizeOf99
 v37:=Tryd.zeroValue99
 t70:=Tryd.underlying98
 a70:=Tryd.isAgg98
 z70:=Tryd.sizeOf98
 v70:=Tryd.zeroValue98
 t72:=Tryd.underlying101
 a72:=Tryd.isAgg101
 z72:=Tryd.sizeOf101
 v72:=Tryd.zeroValue101
 t75:=Tryd.underlying104
 a75:=Tryd.isAgg104
 z75:=Tryd.sizeOf104
 v75:=Tryd.zeroValue104
 t76:=Tryd.underlying105
 a76:=Tryd.isAgg105
 z76:=Tryd.sizeOf105
 v76:=Tryd.zeroValue105
 t127:=Tryd.underlying123
 a127:=Tryd.isAgg123
 z127:=Tryd.sizeOf123
 v127:=Tryd.zeroValue123
 t164:=Tryd.underlying136
 a164:=Tryd.isAgg136
 z164:=Tryd.sizeOf136
 v164:=Tryd.zeroValue136 }
theorem Tryd.Builder_Extra_156 : Builder.Extra Tryd.prog Tryd.lays156_ren := {
 sizeBuilder:=by kernel_rfl
 liesBuilder:=by kernel_rfl
 t5:=Tryd.underlying5
 a5:=Tryd.isAgg5
 z5:=Tryd.sizeOf5
 v5:=Tryd.zeroValue5
 infoByte:=by kernel_rfl
 cellsByte:=by kernel_rfl
 sizeByte:=by kernel_rfl
 neB5:=by decide }
theorem Tryd.strings_Join_none (a : Option Addr) (c : Nat) (sep : ByteArray) (w : World) :
 Calls Tryd.prog 37 #[.slice a 0 c,.string sep] w fun e w'=>e = .returned (.string ⟨#[]⟩) ∧ w' = w:=Any.strings_Join_none Tryd.lays156 Tryd.Builder_Extra_156 a c sep w
theorem Tryd.strings_Join (bk o c : Nat) (xs : List ByteArray) (sep : ByteArray) (w : World) (hcells : ∀ (j : Nat) x,xs[j]? = some x → w.cell? ⟨bk,o + j,none⟩ = some (.string x)) (hbk : bk < w.heap.size) (hN : xs.length ≤ 140737488355328) (hcap : xs.length ≤ c) (hlen : (Lib.join (xs.map (·.data.toList)) sep.data.toList).length ≤ 140737488355328) :
 Calls Tryd.prog 37 #[.slice (some ⟨bk,o,none⟩) xs.length c,.string sep] w fun e w'=>e = .returned (.string ⟨(Lib.join (xs.map (·.data.toList)) sep.data.toList).toArray⟩) ∧ Below w.heap.size w w':=Any.strings_Join Tryd.lays156 Tryd.Builder_Extra_156 bk o c xs sep w hcells hbk hN hcap hlen
def Tryd.lays161_ren : Go.Shelf.Ren:=⟨fun | 161=>78 | 231=>79 | 227=>81 | 233=>82 | 235=>84 | 228=>95 | 197=>96 | 151=>97 | 260=>101 | 152=>102 | 137=>104 | 119=>105 | 224=>106 | 225=>107 | 217=>108 | 266=>109 | n=>n,fun | 9=>9 | 4=>4 | 3=>3 | 5=>5 | 117=>127 | 116=>126 | 0=>0 | 124=>130 | 105=>139 | 21=>21 | 119=>146 | 46=>93 | 139=>149 | 138=>148 | n=>n,fun | 3=>2 | 4=>3 | n=>n⟩
theorem Tryd.lays161 : Go.Proofs.Lays.n161 Tryd.prog Tryd.lays161_ren := {
 mixed:=by kernel_rfl
 f119:=Tryd.func105.trans (congrArg some (by kernel_rfl))
 f137:=Tryd.func104.trans (congrArg some (by kernel_rfl))
 f151:=Tryd.func97.trans (congrArg some (by kernel_rfl))
 f152:=Tryd.func102.trans (congrArg some (by kernel_rfl))
 f161:=Tryd.func78.trans (congrArg some (by kernel_rfl))
 f197:=Tryd.func96.trans (congrArg some (by kernel_rfl))
 f217:=Tryd.func108.trans (congrArg some (by kernel_rfl))
 f224:=Tryd.func106.trans (congrArg some (by kernel_rfl))
 f225:=Tryd.func107.trans (congrArg some (by kernel_rfl))
 f227:=Tryd.func81.trans (congrArg some (by kernel_rfl))
 f228:=Tryd.func95.trans (congrArg some (by kernel_rfl))
 f231:=Tryd.func79.trans (congrArg some (by kernel_rfl))
 f233:=Tryd.func82.trans (congrArg some (by kernel_rfl))
 f235:=Tryd.func84.trans (congrArg some (by kernel_rfl))
 f260:=Tryd.func101.trans (congrArg some (by kernel_rfl))
 f266:=Tryd.func109.trans (congrArg some (by kernel_rfl))
 t0:=Tryd.underlying0
 a0:=Tryd.isAgg0
 z0:=Tryd.sizeOf0
 v0:=Tryd.zeroValue0
 t3:=Tryd.underlying3
 a3:=Tryd.isAgg3
 z3:=Tryd.sizeOf3
 v3:=Tryd.zeroValue3
 t4:=Tryd.underlying4
 a4:=Tryd.isAgg4
 z4:=Tryd.sizeOf4
 v4:=Tryd.zeroValue4
 t5:=Tryd.underlying5
 a5:=Tryd.isAgg5
 z5:=Tryd.sizeOf5
 v5:=Tryd.zeroValue5
 t9:=Tryd.underlying9
 a9:=Tryd.isAgg9
 z9:=Tryd.sizeOf9
 v9:=Tryd.zeroValue9
 t21:=Tryd.underlying21
 a21:=Tryd.isAgg21
 z21:=Tryd.sizeOf21
 v21:=Tryd.zeroValue21
 t46:=Tryd.underlying93
 a46:=Tryd.isAgg93
 z46:=Tryd.sizeOf93
 v46:=Tryd.zeroValue93
 t105:=Tryd.underlying139
 a105:=Tryd.isAgg139
 z105:=Tryd.sizeOf139
 v105:=Tryd.zeroValue139
 t116:=Tryd.underlying126
 a116:=Tryd.isAgg126
 z116:=Tryd.sizeOf126
 t117:=Tryd.underlying127
 a117:=Tryd.isAgg127
 z117:=Tryd.sizeOf127
 v117:=Tryd.zeroValue127
 t119:=Tryd.underlying146
 a119:=Tryd.isAgg146
 z119:=Tryd.sizeOf146
 t124:=Tryd.underlying130
 a124:=Tryd.isAgg130
 z124:=Tryd.sizeOf130
 v124:=Tryd.zeroValue130
 t138:=Tryd.underlying148
 a138:=Tryd.isAgg148
 z138:=Tryd.sizeOf148
 v138:=Tryd.zeroValue148
 t139:=Tryd.underlying149
 a139:=Tryd.isAgg149
 z139:=Tryd.sizeOf149
 v139:=Tryd.zeroValue149
 g3:=by kernel_rfl
 g4:=by kernel_rfl }
theorem Tryd.strings_TrimLeft_ascii (s cutset : ByteArray) (w : World) (hcs : cutset.size < 4294967281) (hascii : ∀ (j : Nat) b,cutset.data.toList[j]? = some b → b.toNat < 128) :
 Calls Tryd.prog 78 #[.string s,.string cutset] w fun e w'=>e = .returned (.string ⟨(Lib.trimLeftS s.data.toList cutset.data.toList).toArray⟩) ∧ Below w.heap.size w w':=Any.strings_TrimLeft_laid Tryd.lays161 (by kernel_rfl) s cutset w hcs hascii
end Go.Proofs
