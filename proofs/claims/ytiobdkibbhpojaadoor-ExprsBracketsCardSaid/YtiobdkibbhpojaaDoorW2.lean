/- The comparisons that values.Order makes: each call returns the number that it should, and changes nothing. No conditions but where the three numbers lie. -/
import Derived.Test.YtiobdkibbhpojaaDoorChecked
import Derived.WalkKit
import Derived.WalkLawsBesides
import Derived.WalkSpells
import Derived.Outline
import Derived.Below
import Derived.Lib.Hide
import Derived.Deep.LoopGhost
set_option linter.unusedVariables false
set_option linter.unusedSimpArgs false
namespace Go.Proofs.YtiobdkibbhpojaaDoor
open Go.RowKit

def cmpI (x y : Int) : Int := if x < y then -1 else if y < x then 1 else 0
def cmpS (x y : ByteArray) : Int := if Op.bytesLess x.toList y.toList = true then -1 else if x.toList = y.toList then 0 else 1

def or3 (x y z : Int) : Int := if x ≠ 0 then x else if y ≠ 0 then y else z
set_option maxHeartbeats 400000 in
theorem cmp_int (x y : Int) (w : World) :
    Calls Tryd.prog 38 #[.int .i64 x, .int .i64 y] w fun e w' => e = .returned (.int .i64 (cmpI x y)) ∧ w = w' := by
  go_enter Tryd.func38, Tryd.ntmps38
  go_wp2
  all_goals go_ret
  all_goals refine ⟨?_, rfl⟩
  all_goals (simp [cmpI]; try omega)
set_option maxHeartbeats 400000 in
theorem cmp_int64 (x y : Int) (w : World) :
    Calls Tryd.prog 39 #[.int .i64 x, .int .i64 y] w fun e w' => e = .returned (.int .i64 (cmpI x y)) ∧ w = w' := by
  go_enter Tryd.func39, Tryd.ntmps39
  go_wp2
  all_goals go_ret
  all_goals refine ⟨?_, rfl⟩
  all_goals (simp [cmpI]; try omega)
set_option maxHeartbeats 400000 in
theorem cmp_str (x y : ByteArray) (w : World) :
    Calls Tryd.prog 40 #[.string x, .string y] w fun e w' => e = .returned (.int .i64 (cmpS x y)) ∧ w = w' := by
  go_enter Tryd.func40, Tryd.ntmps40
  go_wp2
  all_goals go_ret
  all_goals refine ⟨?_, rfl⟩
  all_goals simp_all [cmpS]
set_option maxHeartbeats 400000 in
theorem or_int (b o : Nat) (x y z : Int) (w : World) (h0 : w.cell? ⟨b, o, none⟩ = some (.int .i64 x)) (h1 : w.cell? ⟨b, o + 1, none⟩ = some (.int .i64 y)) (h2 : w.cell? ⟨b, o + 2, none⟩ = some (.int .i64 z)) :
    Calls Tryd.prog 37 #[.slice (some ⟨b, o, none⟩) 3 3] w fun e w' => e = .returned (.int .i64 (or3 x y z)) ∧ w = w' := by
  go_enter Tryd.func37, Tryd.ntmps37
  go_wp2
  go_loop [8] (fun i => ∃ k : Nat, k ≤ 3 ∧ i = .int .i64 k ∧ (0 < k → x = 0) ∧ (1 < k → y = 0) ∧ (2 < k → z = 0)) (fun i => 3 - (intOf i).toNat)
  case atStart => exact ⟨0, by omega, rfl, by omega, by omega, by omega⟩
  case round =>
    obtain ⟨k, hk, rfl, a1, a2, a3⟩ := hrel
    by_cases hk3 : k < 3
    · have hcell : w.cell? ⟨b, o + k, none⟩ = some (.int .i64 (if k = 0 then x else if k = 1 then y else z)) := by
        rcases (show k = 0 ∨ k = 1 ∨ k = 2 by omega) with rfl | rfl | rfl
        · simpa using h0
        · simpa using h1
        · simpa using h2
      generalize hv : (if k = 0 then x else if k = 1 then y else z) = v at hcell
      have Hv := Lib.hid hv
      clear hv h0 h1 h2
      go_wp2
      · go_ret
        refine ⟨?_, rfl⟩
        have hvv := Hv.out
        rcases (show k = 0 ∨ k = 1 ∨ k = 2 by omega) with rfl | rfl | rfl <;> simp_all [or3]
      · go_round
        case rel =>
          have hvv := Hv.out
          refine ⟨k + 1, by omega, by go_num, ?_, ?_, ?_⟩ <;> (rcases (show k = 0 ∨ k = 1 ∨ k = 2 by omega) with rfl | rfl | rfl <;> simp_all)
        case measure => simp [intOf]; omega
    · clear h0 h1 h2
      go_wp2
      go_ret
      refine ⟨?_, rfl⟩
      simp [or3, a1 (by omega), a2 (by omega), a3 (by omega)]
end Go.Proofs.YtiobdkibbhpojaaDoor
