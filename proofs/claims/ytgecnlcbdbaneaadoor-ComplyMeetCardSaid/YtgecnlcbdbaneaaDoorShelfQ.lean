/- Contracts of Go library functions, out of the library that holds for every program, at the numbers of this one. The conditions stand ahead of each. -/
import Derived.Shelf.Sort.Plain
import Derived.Shelf.Slices.CompactS
import Derived.Shelf.Slices.In.SortNone
import Derived.Test.YtgecnlcbdbaneaaDoorProg
set_option linter.unusedVariables false
namespace Go.Proofs
open Go.Shelf Go.RowKit Go.Lib Go.Sort
def Tryd.lays190_ren : Go.Shelf.Ren:=⟨fun | 190=>96 | 125=>103 | 258=>102 | 128=>118 | 129=>119 | 302=>109 | 303=>110 | 304=>111 | 305=>112 | 306=>113 | 307=>114 | 308=>115 | 309=>116 | 310=>117 | 333=>131 | 329=>132 | 330=>133 | 334=>134 | 335=>135 | 336=>136 | 344=>143 | n=>n,fun | 31=>22 | 9=>9 | 3=>3 | 46=>156 | 0=>0 | 51=>177 | 53=>161 | 4=>4 | 183=>170 | 182=>169 | 131=>114 | 5=>5 | 218=>189 | 222=>79 | 228=>198 | 229=>199 | n=>n,fun | n=>n⟩
theorem Tryd.lays190 : Go.Proofs.Lays.n190 Tryd.prog Tryd.lays190_ren := {
 mixed:=by kernel_rfl
 f125:=Tryd.func103.trans (congrArg some (by kernel_rfl))
 f128:=Tryd.func118.trans (congrArg some (by kernel_rfl))
 f129:=Tryd.func119.trans (congrArg some (by kernel_rfl))
 f190:=Tryd.func96.trans (congrArg some (by kernel_rfl))
 f258:=Tryd.func102.trans (congrArg some (by kernel_rfl))
 f302:=Tryd.func109.trans (congrArg some (by kernel_rfl))
 f303:=Tryd.func110.trans (congrArg some (by kernel_rfl))
 f304:=Tryd.func111.trans (congrArg some (by kernel_rfl))
 f305:=Tryd.func112.trans (congrArg some (by kernel_rfl))
 f306:=Tryd.func113.trans (congrArg some (by kernel_rfl))
 f307:=Tryd.func114.trans (congrArg some (by kernel_rfl))
 f308:=Tryd.func115.trans (congrArg some (by kernel_rfl))
 f309:=Tryd.func116.trans (congrArg some (by kernel_rfl))
 f310:=Tryd.func117.trans (congrArg some (by kernel_rfl))
 f329:=Tryd.func132.trans (congrArg some (by kernel_rfl))
 f330:=Tryd.func133.trans (congrArg some (by kernel_rfl))
 f333:=Tryd.func131.trans (congrArg some (by kernel_rfl))
 f334:=Tryd.func134.trans (congrArg some (by kernel_rfl))
 f335:=Tryd.func135.trans (congrArg some (by kernel_rfl))
 f336:=Tryd.func136.trans (congrArg some (by kernel_rfl))
 f344:=Tryd.func143.trans (congrArg some (by kernel_rfl))
 t0:=Tryd.underlying0
 a0:=Tryd.isAgg0
 z0:=Tryd.sizeOf0
 v0:=Tryd.zeroValue0
 t3:=Tryd.underlying3
 a3:=Tryd.isAgg3
 z3:=Tryd.sizeOf3
 v3:=Tryd.zeroValue3
 t4:=Tryd.underlying4
 a4:=Tryd.isAgg4
 z4:=Tryd.sizeOf4
 v4:=Tryd.zeroValue4
 t5:=Tryd.underlying5
 a5:=Tryd.isAgg5
 z5:=Tryd.sizeOf5
 v5:=Tryd.zeroValue5
 t9:=Tryd.underlying9
 a9:=Tryd.isAgg9
 z9:=Tryd.sizeOf9
 v9:=Tryd.zeroValue9
 t31:=Tryd.underlying22
 a31:=Tryd.isAgg22
 z31:=Tryd.sizeOf22
 v31:=Tryd.zeroValue22
 t46:=Tryd.underlying156
 a46:=Tryd.isAgg156
 z46:=Tryd.sizeOf156
 v46:=Tryd.zeroValue156
 t51:=Tryd.underlying177
 a51:=Tryd.isAgg177
 z51:=Tryd.sizeOf177
 v51:=Tryd.zeroValue177
 t53:=Tryd.underlying161
 a53:=Tryd.isAgg161
 z53:=Tryd.sizeOf161
 v53:=Tryd.zeroValue161
 t131:=Tryd.underlying114
 a131:=Tryd.isAgg114
 z131:=Tryd.sizeOf114
 v131:=Tryd.zeroValue114
 t182:=Tryd.underlying169
 a182:=Tryd.isAgg169
 z182:=Tryd.sizeOf169
 v182:=Tryd.zeroValue169
 t183:=Tryd.underlying170
 a183:=Tryd.isAgg170
 z183:=Tryd.sizeOf170
 v183:=Tryd.zeroValue170
 t218:=Tryd.underlying189
 a218:=Tryd.isAgg189
 z218:=Tryd.sizeOf189
 v218:=Tryd.zeroValue189
 t222:=Tryd.underlying79
 a222:=Tryd.isAgg79
 z222:=Tryd.sizeOf79
 v222:=Tryd.zeroValue79
 t228:=Tryd.underlying198
 a228:=Tryd.isAgg198
 z228:=Tryd.sizeOf198
 v228:=Tryd.zeroValue198
 t229:=Tryd.underlying199
 a229:=Tryd.isAgg199
 z229:=Tryd.sizeOf199
 v229:=Tryd.zeroValue199 }
theorem Tryd.slices_Sort_string (blk off cap : Nat) (ss : List (List UInt8)) (w : World) (hH : Holds encStr w blk off ss.toArray) (hblk : blk < w.heap.size) (hsz : ss.length < 4611686018427387904) :
 Calls Tryd.prog 96 #[.slice (some ⟨blk,off,none⟩) ss.length cap] w fun e w' =>
  e = .returned (.tuple #[]) ∧ ∃ n os,w' = grow (putRow encStr (Sort.ahead w n) blk off (ss.mergeSort fun x y=>decide (x ≤ y)).toArray) os:=Any.slices_Sort_string Tryd.lays190 blk off cap ss w hH hblk hsz
def Tryd.lays194_ren : Go.Shelf.Ren:=⟨fun | 194=>97 | n=>n,fun | 31=>22 | 9=>9 | 3=>3 | 4=>4 | 0=>0 | n=>n,fun | n=>n⟩
theorem Tryd.lays194 : Go.Proofs.Lays.n194 Tryd.prog Tryd.lays194_ren := {
 mixed:=by kernel_rfl
 f194:=Tryd.func97.trans (congrArg some (by kernel_rfl))
 t0:=Tryd.underlying0
 a0:=Tryd.isAgg0
 z0:=Tryd.sizeOf0
 v0:=Tryd.zeroValue0
 t3:=Tryd.underlying3
 a3:=Tryd.isAgg3
 z3:=Tryd.sizeOf3
 v3:=Tryd.zeroValue3
 t4:=Tryd.underlying4
 a4:=Tryd.isAgg4
 z4:=Tryd.sizeOf4
 v4:=Tryd.zeroValue4
 t9:=Tryd.underlying9
 a9:=Tryd.isAgg9
 z9:=Tryd.sizeOf9
 v9:=Tryd.zeroValue9
 t31:=Tryd.underlying22
 a31:=Tryd.isAgg22
 z31:=Tryd.sizeOf22
 v31:=Tryd.zeroValue22 }
theorem Tryd.slices_Compact_string (blk off cap : Nat) (zs : List (List UInt8)) (w : World) (hH : Holds encStr w blk off zs.toArray) (hsz : zs.length ≤ 9223372036854775807) (hcap : zs.length ≤ cap) :
 Calls Tryd.prog 97 #[.slice (some ⟨blk,off,none⟩) zs.length cap] w fun e w'=>e = .returned (.slice (some ⟨blk,off,none⟩) (Lib.compact zs).length cap) ∧ ∃ q,w' = putRow encStr (Sort.ahead w q) blk off (Lib.compact zs ++ List.replicate (zs.length - (Lib.compact zs).length) []).toArray:=Any.slices_Compact_string Tryd.lays194 blk off cap zs w hH hsz hcap
theorem Tryd.slices_Compact_string_empty (a : Option Addr) (cap : Nat) (w : World) :
 Calls Tryd.prog 97 #[.slice a 0 cap] w fun e w'=>e = .returned (.slice a 0 cap) ∧ w' = w:=Any.slices_Compact_string_empty Tryd.lays194 a cap w
theorem Tryd.slices_Sort_string_none (p : Option Addr) (cap : Nat) (w : World) :
 Calls Tryd.prog 96 #[.slice p 0 cap] w fun e w'=>e = .returned (.tuple #[]) ∧ w' = w:=Any.slices_Sort_string_none Tryd.lays190 p cap w
end Go.Proofs
