/- Contracts of Go library functions, out of the library that holds for every program, at the numbers of this one. The conditions stand ahead of each. -/
import Derived.Shelf.Sort.Plain
import Derived.Shelf.Slices.CompactS
import Derived.Shelf.Slices.In.SortNone
import Derived.Test.YtmohkmfimcnfeaaDoorProg
set_option linter.unusedVariables false
namespace Go.Proofs
open Go.Shelf Go.RowKit Go.Lib Go.Sort
def Tryd.lays190_ren : Go.Shelf.Ren:=⟨fun | 190=>29 | 125=>50 | 258=>49 | 128=>71 | 129=>72 | 302=>62 | 303=>63 | 304=>64 | 305=>65 | 306=>66 | 307=>67 | 308=>68 | 309=>69 | 310=>70 | 333=>86 | 329=>87 | 330=>88 | 334=>89 | 335=>90 | 336=>91 | 344=>99 | n=>n,fun | 31=>22 | 9=>9 | 3=>3 | 46=>82 | 0=>0 | 51=>111 | 53=>113 | 4=>4 | 183=>103 | 182=>102 | 131=>108 | 5=>5 | 218=>125 | 222=>71 | 228=>137 | 229=>138 | n=>n,fun | n=>n⟩
theorem Tryd.lays190 : Go.Proofs.Lays.n190 Tryd.prog Tryd.lays190_ren := {
 mixed:=by kernel_rfl
 f125:=Tryd.func50.trans (congrArg some (by kernel_rfl))
 f128:=Tryd.func71.trans (congrArg some (by kernel_rfl))
 f129:=Tryd.func72.trans (congrArg some (by kernel_rfl))
 f190:=Tryd.func29.trans (congrArg some (by kernel_rfl))
 f258:=Tryd.func49.trans (congrArg some (by kernel_rfl))
 f302:=Tryd.func62.trans (congrArg some (by kernel_rfl))
 f303:=Tryd.func63.trans (congrArg some (by kernel_rfl))
 f304:=Tryd.func64.trans (congrArg some (by kernel_rfl))
 f305:=Tryd.func65.trans (congrArg some (by kernel_rfl))
 f306:=Tryd.func66.trans (congrArg some (by kernel_rfl))
 f307:=Tryd.func67.trans (congrArg some (by kernel_rfl))
 f308:=Tryd.func68.trans (congrArg some (by kernel_rfl))
 f309:=Tryd.func69.trans (congrArg some (by kernel_rfl))
 f310:=Tryd.func70.trans (congrArg some (by kernel_rfl))
 f329:=Tryd.func87.trans (congrArg some (by kernel_rfl))
 f330:=Tryd.func88.trans (congrArg some (by kernel_rfl))
 f333:=Tryd.func86.trans (congrArg some (by kernel_rfl))
 f334:=Tryd.func89.trans (congrArg some (by kernel_rfl))
 f335:=Tryd.func90.trans (congrArg some (by kernel_rfl))
 f336:=Tryd.func91.trans (congrArg some (by kernel_rfl))
 f344:=Tryd.func99.trans (congrArg some (by kernel_rfl))
 t0:=Tryd.underlying0
 a0:=Tryd.isAgg0
 z0:=Tryd.sizeOf0
 v0:=Tryd.zeroValue0
 t3:=Tryd.underlying3
 a3:=Tryd.isAgg3
 z3:=Tryd.sizeOf3
 v3:=Tryd.zeroValue3
 t4:=Tryd.underlying4
 a4:=Tryd.isAgg4
 z4:=Tryd.sizeOf4
 v4:=Tryd.zeroValue4
 t5:=Tryd.underlying5
 a5:=Tryd.isAgg5
 z5:=Tryd.sizeOf5
 v5:=Tryd.zeroValue5
 t9:=Tryd.underlying9
 a9:=Tryd.isAgg9
 z9:=Tryd.sizeOf9
 v9:=Tryd.zeroValue9
 t31:=Tryd.underlying22
 a31:=Tryd.isAgg22
 z31:=Tryd.sizeOf22
 v31:=Tryd.zeroValue22
 t46:=Tryd.underlying82
 a46:=Tryd.isAgg82
 z46:=Tryd.sizeOf82
 v46:=Tryd.zeroValue82
 t51:=Tryd.underlying111
 a51:=Tryd.isAgg111
 z51:=Tryd.sizeOf111
 v51:=Tryd.zeroValue111
 t53:=Tryd.underlying113
 a53:=Tryd.isAgg113
 z53:=Tryd.sizeOf113
 v53:=Tryd.zeroValue113
 t131:=Tryd.underlying108
 a131:=Tryd.isAgg108
 z131:=Tryd.sizeOf108
 v131:=Tryd.zeroValue108
 t182:=Tryd.underlying102
 a182:=Tryd.isAgg102
 z182:=Tryd.sizeOf102
 v182:=Tryd.zeroValue102
 t183:=Tryd.underlying103
 a183:=Tryd.isAgg103
 z183:=Tryd.sizeOf103
 v183:=Tryd.zeroValue103
 t218:=Tryd.underlying125
 a218:=Tryd.isAgg125
 z218:=Tryd.sizeOf125
 v218:=Tryd.zeroValue125
 t222:=Tryd.underlying71
 a222:=Tryd.isAgg71
 z222:=Tryd.sizeOf71
 v222:=Tryd.zeroValue71
 t228:=Tryd.underlying137
 a228:=Tryd.isAgg137
 z228:=Tryd.sizeOf137
 v228:=Tryd.zeroValue137
 t229:=Tryd.underlying138
 a229:=Tryd.isAgg138
 z229:=Tryd.sizeOf138
 v229:=Tryd.zeroValue138 }
theorem Tryd.slices_Sort_string (blk off cap : Nat) (ss : List (List UInt8)) (w : World) (hH : Holds encStr w blk off ss.toArray) (hblk : blk < w.heap.size) (hsz : ss.length < 4611686018427387904) :
 Calls Tryd.prog 29 #[.slice (some ⟨blk,off,none⟩) ss.length cap] w fun e w' =>
  e = .returned (.tuple #[]) ∧ ∃ n os,w' = grow (putRow encStr (Sort.ahead w n) blk off (ss.mergeSort fun x y=>decide (x ≤ y)).toArray) os:=Any.slices_Sort_string Tryd.lays190 blk off cap ss w hH hblk hsz
def Tryd.lays194_ren : Go.Shelf.Ren:=⟨fun | 194=>31 | n=>n,fun | 31=>22 | 9=>9 | 3=>3 | 4=>4 | 0=>0 | n=>n,fun | n=>n⟩
theorem Tryd.lays194 : Go.Proofs.Lays.n194 Tryd.prog Tryd.lays194_ren := {
 mixed:=by kernel_rfl
 f194:=Tryd.func31.trans (congrArg some (by kernel_rfl))
 t0:=Tryd.underlying0
 a0:=Tryd.isAgg0
 z0:=Tryd.sizeOf0
 v0:=Tryd.zeroValue0
 t3:=Tryd.underlying3
 a3:=Tryd.isAgg3
 z3:=Tryd.sizeOf3
 v3:=Tryd.zeroValue3
 t4:=Tryd.underlying4
 a4:=Tryd.isAgg4
 z4:=Tryd.sizeOf4
 v4:=Tryd.zeroValue4
 t9:=Tryd.underlying9
 a9:=Tryd.isAgg9
 z9:=Tryd.sizeOf9
 v9:=Tryd.zeroValue9
 t31:=Tryd.underlying22
 a31:=Tryd.isAgg22
 z31:=Tryd.sizeOf22
 v31:=Tryd.zeroValue22 }
theorem Tryd.slices_Compact_string (blk off cap : Nat) (zs : List (List UInt8)) (w : World) (hH : Holds encStr w blk off zs.toArray) (hsz : zs.length ≤ 9223372036854775807) (hcap : zs.length ≤ cap) :
 Calls Tryd.prog 31 #[.slice (some ⟨blk,off,none⟩) zs.length cap] w fun e w'=>e = .returned (.slice (some ⟨blk,off,none⟩) (Lib.compact zs).length cap) ∧ ∃ q,w' = putRow encStr (Sort.ahead w q) blk off (Lib.compact zs ++ List.replicate (zs.length - (Lib.compact zs).length) []).toArray:=Any.slices_Compact_string Tryd.lays194 blk off cap zs w hH hsz hcap
theorem Tryd.slices_Compact_string_empty (a : Option Addr) (cap : Nat) (w : World) :
 Calls Tryd.prog 31 #[.slice a 0 cap] w fun e w'=>e = .returned (.slice a 0 cap) ∧ w' = w:=Any.slices_Compact_string_empty Tryd.lays194 a cap w
theorem Tryd.slices_Sort_string_none (p : Option Addr) (cap : Nat) (w : World) :
 Calls Tryd.prog 29 #[.slice p 0 cap] w fun e w'=>e = .returned (.tuple #[]) ∧ w' = w:=Any.slices_Sort_string_none Tryd.lays190 p cap w
end Go.Proofs
