/- strconv.Itoa of small numbers, out of the library that holds for every program, at the numbers of this one. -/
import Derived.Shelf.Strconv.Itoa3
import Derived.Test.YtnclmjbkkgghhaaDoorProg
set_option linter.unusedVariables false
namespace Go.Proofs
open Go.Shelf Go.RowKit Go.Lib Go.Sort
def Tryd.lays171_ren : Go.Shelf.Ren:=⟨fun | 171=>66 | 243=>74 | 246=>78 | 283=>80 | 284=>81 | 285=>82 | 286=>83 | 129=>92 | 317=>91 | 318=>93 | 319=>94 | 320=>95 | 337=>100 | 338=>101 | n=>n,fun | 3=>3 | 9=>9 | 2=>2 | 4=>4 | 171=>119 | 0=>0 | 53=>120 | 37=>123 | 5=>5 | 173=>124 | 212=>134 | 51=>135 | 20=>20 | 213=>136 | 46=>138 | 232=>146 | 233=>147 | n=>n,fun | 17=>0 | 18=>1 | 19=>2 | n=>n⟩
theorem Tryd.lays171 : Go.Proofs.Lays.n171 Tryd.prog Tryd.lays171_ren := {
  mixed:=by kernel_rfl
  f129:=Tryd.func92.trans (congrArg some (by kernel_rfl))
  f171:=Tryd.func66.trans (congrArg some (by kernel_rfl))
  f243:=Tryd.func74.trans (congrArg some (by kernel_rfl))
  f246:=Tryd.func78.trans (congrArg some (by kernel_rfl))
  f283:=Tryd.func80.trans (congrArg some (by kernel_rfl))
  f284:=Tryd.func81.trans (congrArg some (by kernel_rfl))
  f285:=Tryd.func82.trans (congrArg some (by kernel_rfl))
  f286:=Tryd.func83.trans (congrArg some (by kernel_rfl))
  f317:=Tryd.func91.trans (congrArg some (by kernel_rfl))
  f318:=Tryd.func93.trans (congrArg some (by kernel_rfl))
  f319:=Tryd.func94.trans (congrArg some (by kernel_rfl))
  f320:=Tryd.func95.trans (congrArg some (by kernel_rfl))
  f337:=Tryd.func100.trans (congrArg some (by kernel_rfl))
  f338:=Tryd.func101.trans (congrArg some (by kernel_rfl))
  t0:=Tryd.underlying0
  a0:=Tryd.isAgg0
  z0:=Tryd.sizeOf0
  v0:=Tryd.zeroValue0
  t2:=Tryd.underlying2
  a2:=Tryd.isAgg2
  z2:=Tryd.sizeOf2
  v2:=Tryd.zeroValue2
  t3:=Tryd.underlying3
  a3:=Tryd.isAgg3
  z3:=Tryd.sizeOf3
  v3:=Tryd.zeroValue3
  t4:=Tryd.underlying4
  a4:=Tryd.isAgg4
  z4:=Tryd.sizeOf4
  v4:=Tryd.zeroValue4
  t5:=Tryd.underlying5
  a5:=Tryd.isAgg5
  z5:=Tryd.sizeOf5
  v5:=Tryd.zeroValue5
  t9:=Tryd.underlying9
  a9:=Tryd.isAgg9
  z9:=Tryd.sizeOf9
  v9:=Tryd.zeroValue9
  t20:=Tryd.underlying20
  a20:=Tryd.isAgg20
  z20:=Tryd.sizeOf20
  v20:=Tryd.zeroValue20
  t37:=Tryd.underlying123
  a37:=Tryd.isAgg123
  z37:=Tryd.sizeOf123
  v37:=Tryd.zeroValue123
  t46:=Tryd.underlying138
  a46:=Tryd.isAgg138
  z46:=Tryd.sizeOf138
  v46:=Tryd.zeroValue138
  t51:=Tryd.underlying135
  a51:=Tryd.isAgg135
  z51:=Tryd.sizeOf135
  v51:=Tryd.zeroValue135
  t53:=Tryd.underlying120
  a53:=Tryd.isAgg120
  z53:=Tryd.sizeOf120
  v53:=Tryd.zeroValue120
  t171:=Tryd.underlying119
  a171:=Tryd.isAgg119
  z171:=Tryd.sizeOf119
  v171:=Tryd.zeroValue119
  t173:=Tryd.underlying124
  a173:=Tryd.isAgg124
  z173:=Tryd.sizeOf124
  v173:=Tryd.zeroValue124
  t212:=Tryd.underlying134
  a212:=Tryd.isAgg134
  z212:=Tryd.sizeOf134
  v212:=Tryd.zeroValue134
  t213:=Tryd.underlying136
  a213:=Tryd.isAgg136
  z213:=Tryd.sizeOf136
  t232:=Tryd.underlying146
  a232:=Tryd.isAgg146
  z232:=Tryd.sizeOf146
  v232:=Tryd.zeroValue146
  t233:=Tryd.underlying147
  a233:=Tryd.isAgg147
  z233:=Tryd.sizeOf147
  v233:=Tryd.zeroValue147
  g17:=by kernel_rfl
  g18:=by kernel_rfl
  g19:=by kernel_rfl }
theorem Tryd.strconv_Itoa_small (i : Nat) (hi : i < 100) (w : World) :
    Calls Tryd.prog 66 #[.int .i64 i] w fun e w'=>e = .returned (.string ⟨(Lib.decDigits i).toArray⟩) ∧ w' = w:=Any.strconv_Itoa_small Tryd.lays171 i hi w
end Go.Proofs
