/- strconv.Itoa of small numbers, out of the library that holds for every program, at the numbers of this one. -/
import Derived.Shelf.Strconv.Itoa3
import Derived.Test.YtgecnlcbdbaneaaDoorProg
set_option linter.unusedVariables false
namespace Go.Proofs
open Go.Shelf Go.RowKit Go.Lib Go.Sort
def Tryd.lays171_ren : Go.Shelf.Ren:=⟨fun | 171=>83 | 243=>95 | 246=>101 | 283=>105 | 284=>106 | 285=>107 | 286=>108 | 129=>119 | 317=>127 | 318=>128 | 319=>129 | 320=>130 | 337=>141 | 338=>142 | n=>n,fun | 3=>3 | 9=>9 | 2=>2 | 4=>4 | 171=>162 | 0=>0 | 53=>161 | 37=>165 | 5=>5 | 173=>166 | 212=>186 | 51=>177 | 20=>20 | 213=>187 | 46=>156 | 232=>202 | 233=>203 | n=>n,fun | 17=>2 | 18=>3 | 19=>4 | n=>n⟩
theorem Tryd.lays171 : Go.Proofs.Lays.n171 Tryd.prog Tryd.lays171_ren := {
 mixed:=by kernel_rfl
 f129:=Tryd.func119.trans (congrArg some (by kernel_rfl))
 f171:=Tryd.func83.trans (congrArg some (by kernel_rfl))
 f243:=Tryd.func95.trans (congrArg some (by kernel_rfl))
 f246:=Tryd.func101.trans (congrArg some (by kernel_rfl))
 f283:=Tryd.func105.trans (congrArg some (by kernel_rfl))
 f284:=Tryd.func106.trans (congrArg some (by kernel_rfl))
 f285:=Tryd.func107.trans (congrArg some (by kernel_rfl))
 f286:=Tryd.func108.trans (congrArg some (by kernel_rfl))
 f317:=Tryd.func127.trans (congrArg some (by kernel_rfl))
 f318:=Tryd.func128.trans (congrArg some (by kernel_rfl))
 f319:=Tryd.func129.trans (congrArg some (by kernel_rfl))
 f320:=Tryd.func130.trans (congrArg some (by kernel_rfl))
 f337:=Tryd.func141.trans (congrArg some (by kernel_rfl))
 f338:=Tryd.func142.trans (congrArg some (by kernel_rfl))
 t0:=Tryd.underlying0
 a0:=Tryd.isAgg0
 z0:=Tryd.sizeOf0
 v0:=Tryd.zeroValue0
 t2:=Tryd.underlying2
 a2:=Tryd.isAgg2
 z2:=Tryd.sizeOf2
 v2:=Tryd.zeroValue2
 t3:=Tryd.underlying3
 a3:=Tryd.isAgg3
 z3:=Tryd.sizeOf3
 v3:=Tryd.zeroValue3
 t4:=Tryd.underlying4
 a4:=Tryd.isAgg4
 z4:=Tryd.sizeOf4
 v4:=Tryd.zeroValue4
 t5:=Tryd.underlying5
 a5:=Tryd.isAgg5
 z5:=Tryd.sizeOf5
 v5:=Tryd.zeroValue5
 t9:=Tryd.underlying9
 a9:=Tryd.isAgg9
 z9:=Tryd.sizeOf9
 v9:=Tryd.zeroValue9
 t20:=Tryd.underlying20
 a20:=Tryd.isAgg20
 z20:=Tryd.sizeOf20
 v20:=Tryd.zeroValue20
 t37:=Tryd.underlying165
 a37:=Tryd.isAgg165
 z37:=Tryd.sizeOf165
 v37:=Tryd.zeroValue165
 t46:=Tryd.underlying156
 a46:=Tryd.isAgg156
 z46:=Tryd.sizeOf156
 v46:=Tryd.zeroValue156
 t51:=Tryd.underlying177
 a51:=Tryd.isAgg177
 z51:=Tryd.sizeOf177
 v51:=Tryd.zeroValue177
 t53:=Tryd.underlying161
 a53:=Tryd.isAgg161
 z53:=Tryd.sizeOf161
 v53:=Tryd.zeroValue161
 t171:=Tryd.underlying162
 a171:=Tryd.isAgg162
 z171:=Tryd.sizeOf162
 v171:=Tryd.zeroValue162
 t173:=Tryd.underlying166
 a173:=Tryd.isAgg166
 z173:=Tryd.sizeOf166
 v173:=Tryd.zeroValue166
 t212:=Tryd.underlying186
 a212:=Tryd.isAgg186
 z212:=Tryd.sizeOf186
 v212:=Tryd.zeroValue186
 t213:=Tryd.underlying187
 a213:=Tryd.isAgg187
 z213:=Tryd.sizeOf187
 t232:=Tryd.underlying202
 a232:=Tryd.isAgg202
 z232:=Tryd.sizeOf202
 v232:=Tryd.zeroValue202
 t233:=Tryd.underlying203
 a233:=Tryd.isAgg203
 z233:=Tryd.sizeOf203
 v233:=Tryd.zeroValue203
 g17:=by kernel_rfl
 g18:=by kernel_rfl
 g19:=by kernel_rfl }
theorem Tryd.strconv_Itoa_small (i : Nat) (hi : i < 100) (w : World) :
 Calls Tryd.prog 83 #[.int .i64 i] w fun e w'=>e = .returned (.string ⟨(Lib.decDigits i).toArray⟩) ∧ w' = w:=Any.strconv_Itoa_small Tryd.lays171 i hi w
end Go.Proofs
