/- The walk of the law ValuesJoin, from what its calls of Turned, Length and Joined return. -/
import Derived.Test.YtiobdkibbhpojaaDoorW5
import Derived.Test.YtiobdkibbhpojaaDoorL1
import Derived.Deep.QuietTactic
import Derived.BigQuiet
import Derived.IntWalk
set_option linter.unusedVariables false
set_option linter.unusedSimpArgs false
namespace Go.Proofs.YtiobdkibbhpojaaDoor
open Go.RowKit

theorem drewB {B : Nat} {a w : World} (h : Below B a w) (n : Nat) : Below B a (w.drewN n) := h.trans ⟨rfl, rfl, rfl, Nat.le_refl _, fun _ _ => rfl⟩

def TurnSaid (a x : Value) (e : Int) : Prop := ∀ w, Tabs w → Calls Tryd.prog 13 #[a] w fun r w' => r = .returned (.tuple #[x, .int .i64 e]) ∧ Below w.heap.size w w'
def LenSaid (a : Value) (n e : Int) : Prop := ∀ w, Tabs w → Calls Tryd.prog 14 #[a] w fun r w' => r = .returned (.tuple #[.int .i64 n, .int .i64 e]) ∧ Below w.heap.size w w'
def JoinSaid (a b x : Value) (e : Int) : Prop := ∀ w, Tabs w → Calls Tryd.prog 15 #[a, b] w fun r w' => r = .returned (.tuple #[x, .int .i64 e]) ∧ Below w.heap.size w w'

set_option maxRecDepth 100000 in
set_option maxHeartbeats 1000000 in
theorem join_p1 (t n t' n' E : Int) (s s' : ByteArray) (w : World) (ht : Tabs w) (h1 : TurnSaid (vv 3 0 ⟨#[97, 98]⟩) (vv 3 0 ⟨#[98, 97]⟩) 0) (h2 : TurnSaid (vv t n s) zeroV E) (hE : (E != 0) = true) :
    Calls Tryd.prog 4 #[vv t n s, vv t' n' s'] w fun e w' => e = .returned (.bool true) ∧ Below w.heap.size w w' := by
  unfold zeroV at h2
  have Ht := Lib.hid ht
  clear ht
  go_enter Tryd.func4, Tryd.ntmps4
  go_wp2_with fail
  have hP1 : Below w.heap.size w _ := ((Below.refl _ _).alloc (Nat.le_refl _) (.cells #[Value.int .i64 t, Value.int .i64 n, Value.string s] 23)).alloc (by simp) (.cells #[Value.int .i64 t', Value.int .i64 n', Value.string s'] 23)
  refine (h1 _ (Ht.out.below hP1)).mono ?_
  rintro e w1 ⟨rfl, hb1⟩
  have hB1 : Below w.heap.size w w1 := hP1.trans (hb1.mono hP1.size)
  have q1_0_0 : w1.cell? ⟨w.heap.size, 0, none⟩ = some (.int .i64 t) := keepB hb1 (by go_simp)
  have q1_0_1 : w1.cell? ⟨w.heap.size, 1, none⟩ = some (.int .i64 n) := keepB hb1 (by go_simp)
  have q1_0_2 : w1.cell? ⟨w.heap.size, 2, none⟩ = some (.string s) := keepB hb1 (by go_simp)
  have z1_0 : w.heap.size < w1.heap.size := World.block_lt_of_cell? _ _ q1_0_0
  have q1_1_0 : w1.cell? ⟨w.heap.size + 1, 0, none⟩ = some (.int .i64 t') := keepB hb1 (by go_simp)
  have q1_1_1 : w1.cell? ⟨w.heap.size + 1, 1, none⟩ = some (.int .i64 n') := keepB hb1 (by go_simp)
  have q1_1_2 : w1.cell? ⟨w.heap.size + 1, 2, none⟩ = some (.string s') := keepB hb1 (by go_simp)
  have z1_1 : w.heap.size + 1 < w1.heap.size := World.block_lt_of_cell? _ _ q1_1_0
  clear hb1
  go_wp2_with fail
  have hP2 : Below w.heap.size w _ := (hB1).alloc hB1.size (.cells #[Value.int .i64 3, Value.int .i64 0, Value.string ⟨#[98, 97]⟩] 23)
  refine (h2 _ (Ht.out.below hP2)).mono ?_
  rintro e w2 ⟨rfl, hb2⟩
  have hB2 : Below w.heap.size w w2 := hP2.trans (hb2.mono hP2.size)
  have q2_0_0 : w2.cell? ⟨w.heap.size, 0, none⟩ = some (.int .i64 t) := keepB hb2 (by go_simp)
  have q2_0_1 : w2.cell? ⟨w.heap.size, 1, none⟩ = some (.int .i64 n) := keepB hb2 (by go_simp)
  have q2_0_2 : w2.cell? ⟨w.heap.size, 2, none⟩ = some (.string s) := keepB hb2 (by go_simp)
  have z2_0 : w.heap.size < w2.heap.size := World.block_lt_of_cell? _ _ q2_0_0
  have q2_1_0 : w2.cell? ⟨w.heap.size + 1, 0, none⟩ = some (.int .i64 t') := keepB hb2 (by go_simp)
  have q2_1_1 : w2.cell? ⟨w.heap.size + 1, 1, none⟩ = some (.int .i64 n') := keepB hb2 (by go_simp)
  have q2_1_2 : w2.cell? ⟨w.heap.size + 1, 2, none⟩ = some (.string s') := keepB hb2 (by go_simp)
  have z2_1 : w.heap.size + 1 < w2.heap.size := World.block_lt_of_cell? _ _ q2_1_0
  have q2_2_0 : w2.cell? ⟨w1.heap.size, 0, none⟩ = some (.int .i64 3) := keepB hb2 (by go_simp)
  have q2_2_1 : w2.cell? ⟨w1.heap.size, 1, none⟩ = some (.int .i64 0) := keepB hb2 (by go_simp)
  have q2_2_2 : w2.cell? ⟨w1.heap.size, 2, none⟩ = some (.string ⟨#[98, 97]⟩) := keepB hb2 (by go_simp)
  have z2_2 : w1.heap.size < w2.heap.size := World.block_lt_of_cell? _ _ q2_2_0
  clear q1_0_0 q1_0_1 q1_0_2 z1_0 q1_1_0 q1_1_1 q1_1_2 z1_1 hb2
  clear hP2
  go_wp2
  go_ret
  exact ⟨rfl, hB2.alloc hB2.size _⟩

set_option maxRecDepth 100000 in
set_option maxHeartbeats 1000000 in
theorem join_p2 (t' n' E N : Int) (s s' x : ByteArray) (w : World) (ht : Tabs w) (h1 : TurnSaid (vv 3 0 ⟨#[97, 98]⟩) (vv 3 0 ⟨#[98, 97]⟩) 0) (h2 : TurnSaid (vv 3 0 s) (vv 3 0 x) 0) (h3 : TurnSaid (vv 3 0 x) (vv 3 0 s) 0) (h4 : LenSaid (vv 3 0 s) N 0) (h5 : LenSaid (vv 3 0 x) N 0) (h6 : JoinSaid (vv 3 0 s) (vv t' n' s') zeroV E) (hE : (E != 0) = true) :
    Calls Tryd.prog 4 #[vv 3 0 s, vv t' n' s'] w fun e w' => e = .returned (.bool true) ∧ Below w.heap.size w w' := by
  unfold zeroV at h6
  have Ht := Lib.hid ht
  clear ht
  go_enter Tryd.func4, Tryd.ntmps4
  go_wp2_with fail
  have hP1 : Below w.heap.size w _ := ((Below.refl _ _).alloc (Nat.le_refl _) (.cells #[Value.int .i64 3, Value.int .i64 0, Value.string s] 23)).alloc (by simp) (.cells #[Value.int .i64 t', Value.int .i64 n', Value.string s'] 23)
  refine (h1 _ (Ht.out.below hP1)).mono ?_
  rintro e w1 ⟨rfl, hb1⟩
  have hB1 : Below w.heap.size w w1 := hP1.trans (hb1.mono hP1.size)
  have q1_0_0 : w1.cell? ⟨w.heap.size, 0, none⟩ = some (.int .i64 3) := keepB hb1 (by go_simp)
  have q1_0_1 : w1.cell? ⟨w.heap.size, 1, none⟩ = some (.int .i64 0) := keepB hb1 (by go_simp)
  have q1_0_2 : w1.cell? ⟨w.heap.size, 2, none⟩ = some (.string s) := keepB hb1 (by go_simp)
  have z1_0 : w.heap.size < w1.heap.size := World.block_lt_of_cell? _ _ q1_0_0
  have q1_1_0 : w1.cell? ⟨w.heap.size + 1, 0, none⟩ = some (.int .i64 t') := keepB hb1 (by go_simp)
  have q1_1_1 : w1.cell? ⟨w.heap.size + 1, 1, none⟩ = some (.int .i64 n') := keepB hb1 (by go_simp)
  have q1_1_2 : w1.cell? ⟨w.heap.size + 1, 2, none⟩ = some (.string s') := keepB hb1 (by go_simp)
  have z1_1 : w.heap.size + 1 < w1.heap.size := World.block_lt_of_cell? _ _ q1_1_0
  clear hb1
  go_wp2_with fail
  have hP2 : Below w.heap.size w _ := (hB1).alloc hB1.size (.cells #[Value.int .i64 3, Value.int .i64 0, Value.string ⟨#[98, 97]⟩] 23)
  refine (h2 _ (Ht.out.below hP2)).mono ?_
  rintro e w2 ⟨rfl, hb2⟩
  have hB2 : Below w.heap.size w w2 := hP2.trans (hb2.mono hP2.size)
  have q2_0_0 : w2.cell? ⟨w.heap.size, 0, none⟩ = some (.int .i64 3) := keepB hb2 (by go_simp)
  have q2_0_1 : w2.cell? ⟨w.heap.size, 1, none⟩ = some (.int .i64 0) := keepB hb2 (by go_simp)
  have q2_0_2 : w2.cell? ⟨w.heap.size, 2, none⟩ = some (.string s) := keepB hb2 (by go_simp)
  have z2_0 : w.heap.size < w2.heap.size := World.block_lt_of_cell? _ _ q2_0_0
  have q2_1_0 : w2.cell? ⟨w.heap.size + 1, 0, none⟩ = some (.int .i64 t') := keepB hb2 (by go_simp)
  have q2_1_1 : w2.cell? ⟨w.heap.size + 1, 1, none⟩ = some (.int .i64 n') := keepB hb2 (by go_simp)
  have q2_1_2 : w2.cell? ⟨w.heap.size + 1, 2, none⟩ = some (.string s') := keepB hb2 (by go_simp)
  have z2_1 : w.heap.size + 1 < w2.heap.size := World.block_lt_of_cell? _ _ q2_1_0
  have q2_2_0 : w2.cell? ⟨w1.heap.size, 0, none⟩ = some (.int .i64 3) := keepB hb2 (by go_simp)
  have q2_2_1 : w2.cell? ⟨w1.heap.size, 1, none⟩ = some (.int .i64 0) := keepB hb2 (by go_simp)
  have q2_2_2 : w2.cell? ⟨w1.heap.size, 2, none⟩ = some (.string ⟨#[98, 97]⟩) := keepB hb2 (by go_simp)
  have z2_2 : w1.heap.size < w2.heap.size := World.block_lt_of_cell? _ _ q2_2_0
  clear q1_0_0 q1_0_1 q1_0_2 z1_0 q1_1_0 q1_1_1 q1_1_2 z1_1 hb2
  clear hP2
  go_wp2_with fail
  have hP3 : Below w.heap.size w _ := (hB2).alloc hB2.size (.cells #[Value.int .i64 3, Value.int .i64 0, Value.string x] 23)
  refine (h3 _ (Ht.out.below hP3)).mono ?_
  rintro e w3 ⟨rfl, hb3⟩
  have hB3 : Below w.heap.size w w3 := hP3.trans (hb3.mono hP3.size)
  have q3_0_0 : w3.cell? ⟨w.heap.size, 0, none⟩ = some (.int .i64 3) := keepB hb3 (by go_simp)
  have q3_0_1 : w3.cell? ⟨w.heap.size, 1, none⟩ = some (.int .i64 0) := keepB hb3 (by go_simp)
  have q3_0_2 : w3.cell? ⟨w.heap.size, 2, none⟩ = some (.string s) := keepB hb3 (by go_simp)
  have z3_0 : w.heap.size < w3.heap.size := World.block_lt_of_cell? _ _ q3_0_0
  have q3_1_0 : w3.cell? ⟨w.heap.size + 1, 0, none⟩ = some (.int .i64 t') := keepB hb3 (by go_simp)
  have q3_1_1 : w3.cell? ⟨w.heap.size + 1, 1, none⟩ = some (.int .i64 n') := keepB hb3 (by go_simp)
  have q3_1_2 : w3.cell? ⟨w.heap.size + 1, 2, none⟩ = some (.string s') := keepB hb3 (by go_simp)
  have z3_1 : w.heap.size + 1 < w3.heap.size := World.block_lt_of_cell? _ _ q3_1_0
  have q3_2_0 : w3.cell? ⟨w1.heap.size, 0, none⟩ = some (.int .i64 3) := keepB hb3 (by go_simp)
  have q3_2_1 : w3.cell? ⟨w1.heap.size, 1, none⟩ = some (.int .i64 0) := keepB hb3 (by go_simp)
  have q3_2_2 : w3.cell? ⟨w1.heap.size, 2, none⟩ = some (.string ⟨#[98, 97]⟩) := keepB hb3 (by go_simp)
  have z3_2 : w1.heap.size < w3.heap.size := World.block_lt_of_cell? _ _ q3_2_0
  have q3_3_0 : w3.cell? ⟨w2.heap.size, 0, none⟩ = some (.int .i64 3) := keepB hb3 (by go_simp)
  have q3_3_1 : w3.cell? ⟨w2.heap.size, 1, none⟩ = some (.int .i64 0) := keepB hb3 (by go_simp)
  have q3_3_2 : w3.cell? ⟨w2.heap.size, 2, none⟩ = some (.string x) := keepB hb3 (by go_simp)
  have z3_3 : w2.heap.size < w3.heap.size := World.block_lt_of_cell? _ _ q3_3_0
  clear q2_0_0 q2_0_1 q2_0_2 z2_0 q2_1_0 q2_1_1 q2_1_2 z2_1 q2_2_0 q2_2_1 q2_2_2 z2_2 hb3
  clear hP3
  go_wp2_with fail
  have hP4 : Below w.heap.size w _ := (hB3).alloc hB3.size (.cells #[Value.int .i64 3, Value.int .i64 0, Value.string s] 23)
  refine (h4 _ (Ht.out.below hP4)).mono ?_
  rintro e w4 ⟨rfl, hb4⟩
  have hB4 : Below w.heap.size w w4 := hP4.trans (hb4.mono hP4.size)
  have q4_0_0 : w4.cell? ⟨w.heap.size, 0, none⟩ = some (.int .i64 3) := keepB hb4 (by go_simp)
  have q4_0_1 : w4.cell? ⟨w.heap.size, 1, none⟩ = some (.int .i64 0) := keepB hb4 (by go_simp)
  have q4_0_2 : w4.cell? ⟨w.heap.size, 2, none⟩ = some (.string s) := keepB hb4 (by go_simp)
  have z4_0 : w.heap.size < w4.heap.size := World.block_lt_of_cell? _ _ q4_0_0
  have q4_1_0 : w4.cell? ⟨w.heap.size + 1, 0, none⟩ = some (.int .i64 t') := keepB hb4 (by go_simp)
  have q4_1_1 : w4.cell? ⟨w.heap.size + 1, 1, none⟩ = some (.int .i64 n') := keepB hb4 (by go_simp)
  have q4_1_2 : w4.cell? ⟨w.heap.size + 1, 2, none⟩ = some (.string s') := keepB hb4 (by go_simp)
  have z4_1 : w.heap.size + 1 < w4.heap.size := World.block_lt_of_cell? _ _ q4_1_0
  have q4_2_0 : w4.cell? ⟨w1.heap.size, 0, none⟩ = some (.int .i64 3) := keepB hb4 (by go_simp)
  have q4_2_1 : w4.cell? ⟨w1.heap.size, 1, none⟩ = some (.int .i64 0) := keepB hb4 (by go_simp)
  have q4_2_2 : w4.cell? ⟨w1.heap.size, 2, none⟩ = some (.string ⟨#[98, 97]⟩) := keepB hb4 (by go_simp)
  have z4_2 : w1.heap.size < w4.heap.size := World.block_lt_of_cell? _ _ q4_2_0
  have q4_3_0 : w4.cell? ⟨w2.heap.size, 0, none⟩ = some (.int .i64 3) := keepB hb4 (by go_simp)
  have q4_3_1 : w4.cell? ⟨w2.heap.size, 1, none⟩ = some (.int .i64 0) := keepB hb4 (by go_simp)
  have q4_3_2 : w4.cell? ⟨w2.heap.size, 2, none⟩ = some (.string x) := keepB hb4 (by go_simp)
  have z4_3 : w2.heap.size < w4.heap.size := World.block_lt_of_cell? _ _ q4_3_0
  have q4_4_0 : w4.cell? ⟨w3.heap.size, 0, none⟩ = some (.int .i64 3) := keepB hb4 (by go_simp)
  have q4_4_1 : w4.cell? ⟨w3.heap.size, 1, none⟩ = some (.int .i64 0) := keepB hb4 (by go_simp)
  have q4_4_2 : w4.cell? ⟨w3.heap.size, 2, none⟩ = some (.string s) := keepB hb4 (by go_simp)
  have z4_4 : w3.heap.size < w4.heap.size := World.block_lt_of_cell? _ _ q4_4_0
  clear q3_0_0 q3_0_1 q3_0_2 z3_0 q3_1_0 q3_1_1 q3_1_2 z3_1 q3_2_0 q3_2_1 q3_2_2 z3_2 q3_3_0 q3_3_1 q3_3_2 z3_3 hb4
  clear hP4
  go_wp2_with fail
  have hP5 : Below w.heap.size w _ := hB4
  refine (h5 _ (Ht.out.below hP5)).mono ?_
  rintro e w5 ⟨rfl, hb5⟩
  have hB5 : Below w.heap.size w w5 := hP5.trans (hb5.mono hP5.size)
  have q5_0_0 : w5.cell? ⟨w.heap.size, 0, none⟩ = some (.int .i64 3) := keepB hb5 (by go_simp)
  have q5_0_1 : w5.cell? ⟨w.heap.size, 1, none⟩ = some (.int .i64 0) := keepB hb5 (by go_simp)
  have q5_0_2 : w5.cell? ⟨w.heap.size, 2, none⟩ = some (.string s) := keepB hb5 (by go_simp)
  have z5_0 : w.heap.size < w5.heap.size := World.block_lt_of_cell? _ _ q5_0_0
  have q5_1_0 : w5.cell? ⟨w.heap.size + 1, 0, none⟩ = some (.int .i64 t') := keepB hb5 (by go_simp)
  have q5_1_1 : w5.cell? ⟨w.heap.size + 1, 1, none⟩ = some (.int .i64 n') := keepB hb5 (by go_simp)
  have q5_1_2 : w5.cell? ⟨w.heap.size + 1, 2, none⟩ = some (.string s') := keepB hb5 (by go_simp)
  have z5_1 : w.heap.size + 1 < w5.heap.size := World.block_lt_of_cell? _ _ q5_1_0
  have q5_2_0 : w5.cell? ⟨w1.heap.size, 0, none⟩ = some (.int .i64 3) := keepB hb5 (by go_simp)
  have q5_2_1 : w5.cell? ⟨w1.heap.size, 1, none⟩ = some (.int .i64 0) := keepB hb5 (by go_simp)
  have q5_2_2 : w5.cell? ⟨w1.heap.size, 2, none⟩ = some (.string ⟨#[98, 97]⟩) := keepB hb5 (by go_simp)
  have z5_2 : w1.heap.size < w5.heap.size := World.block_lt_of_cell? _ _ q5_2_0
  have q5_3_0 : w5.cell? ⟨w2.heap.size, 0, none⟩ = some (.int .i64 3) := keepB hb5 (by go_simp)
  have q5_3_1 : w5.cell? ⟨w2.heap.size, 1, none⟩ = some (.int .i64 0) := keepB hb5 (by go_simp)
  have q5_3_2 : w5.cell? ⟨w2.heap.size, 2, none⟩ = some (.string x) := keepB hb5 (by go_simp)
  have z5_3 : w2.heap.size < w5.heap.size := World.block_lt_of_cell? _ _ q5_3_0
  have q5_4_0 : w5.cell? ⟨w3.heap.size, 0, none⟩ = some (.int .i64 3) := keepB hb5 (by go_simp)
  have q5_4_1 : w5.cell? ⟨w3.heap.size, 1, none⟩ = some (.int .i64 0) := keepB hb5 (by go_simp)
  have q5_4_2 : w5.cell? ⟨w3.heap.size, 2, none⟩ = some (.string s) := keepB hb5 (by go_simp)
  have z5_4 : w3.heap.size < w5.heap.size := World.block_lt_of_cell? _ _ q5_4_0
  clear q4_0_0 q4_0_1 q4_0_2 z4_0 q4_1_0 q4_1_1 q4_1_2 z4_1 q4_2_0 q4_2_1 q4_2_2 z4_2 q4_3_0 q4_3_1 q4_3_2 z4_3 q4_4_0 q4_4_1 q4_4_2 z4_4 hb5
  clear hP5
  go_wp2_with fail
  have hP6 : Below w.heap.size w _ := hB5
  refine (h6 _ (Ht.out.below hP6)).mono ?_
  rintro e w6 ⟨rfl, hb6⟩
  have hB6 : Below w.heap.size w w6 := hP6.trans (hb6.mono hP6.size)
  have q6_0_0 : w6.cell? ⟨w.heap.size, 0, none⟩ = some (.int .i64 3) := keepB hb6 (by go_simp)
  have q6_0_1 : w6.cell? ⟨w.heap.size, 1, none⟩ = some (.int .i64 0) := keepB hb6 (by go_simp)
  have q6_0_2 : w6.cell? ⟨w.heap.size, 2, none⟩ = some (.string s) := keepB hb6 (by go_simp)
  have z6_0 : w.heap.size < w6.heap.size := World.block_lt_of_cell? _ _ q6_0_0
  have q6_1_0 : w6.cell? ⟨w.heap.size + 1, 0, none⟩ = some (.int .i64 t') := keepB hb6 (by go_simp)
  have q6_1_1 : w6.cell? ⟨w.heap.size + 1, 1, none⟩ = some (.int .i64 n') := keepB hb6 (by go_simp)
  have q6_1_2 : w6.cell? ⟨w.heap.size + 1, 2, none⟩ = some (.string s') := keepB hb6 (by go_simp)
  have z6_1 : w.heap.size + 1 < w6.heap.size := World.block_lt_of_cell? _ _ q6_1_0
  have q6_2_0 : w6.cell? ⟨w1.heap.size, 0, none⟩ = some (.int .i64 3) := keepB hb6 (by go_simp)
  have q6_2_1 : w6.cell? ⟨w1.heap.size, 1, none⟩ = some (.int .i64 0) := keepB hb6 (by go_simp)
  have q6_2_2 : w6.cell? ⟨w1.heap.size, 2, none⟩ = some (.string ⟨#[98, 97]⟩) := keepB hb6 (by go_simp)
  have z6_2 : w1.heap.size < w6.heap.size := World.block_lt_of_cell? _ _ q6_2_0
  have q6_3_0 : w6.cell? ⟨w2.heap.size, 0, none⟩ = some (.int .i64 3) := keepB hb6 (by go_simp)
  have q6_3_1 : w6.cell? ⟨w2.heap.size, 1, none⟩ = some (.int .i64 0) := keepB hb6 (by go_simp)
  have q6_3_2 : w6.cell? ⟨w2.heap.size, 2, none⟩ = some (.string x) := keepB hb6 (by go_simp)
  have z6_3 : w2.heap.size < w6.heap.size := World.block_lt_of_cell? _ _ q6_3_0
  have q6_4_0 : w6.cell? ⟨w3.heap.size, 0, none⟩ = some (.int .i64 3) := keepB hb6 (by go_simp)
  have q6_4_1 : w6.cell? ⟨w3.heap.size, 1, none⟩ = some (.int .i64 0) := keepB hb6 (by go_simp)
  have q6_4_2 : w6.cell? ⟨w3.heap.size, 2, none⟩ = some (.string s) := keepB hb6 (by go_simp)
  have z6_4 : w3.heap.size < w6.heap.size := World.block_lt_of_cell? _ _ q6_4_0
  clear q5_0_0 q5_0_1 q5_0_2 z5_0 q5_1_0 q5_1_1 q5_1_2 z5_1 q5_2_0 q5_2_1 q5_2_2 z5_2 q5_3_0 q5_3_1 q5_3_2 z5_3 q5_4_0 q5_4_1 q5_4_2 z5_4 hb6
  clear hP6
  go_wp2
  go_ret
  exact ⟨rfl, hB6.alloc hB6.size _⟩

set_option maxRecDepth 100000 in
set_option maxHeartbeats 2000000 in
theorem join_p3 (t' n' N K L : Int) (s s' x c : ByteArray) (w : World) (ht : Tabs w) (h1 : TurnSaid (vv 3 0 ⟨#[97, 98]⟩) (vv 3 0 ⟨#[98, 97]⟩) 0) (h2 : TurnSaid (vv 3 0 s) (vv 3 0 x) 0) (h3 : TurnSaid (vv 3 0 x) (vv 3 0 s) 0) (h4 : LenSaid (vv 3 0 s) N 0) (h5 : LenSaid (vv 3 0 x) N 0) (h6 : JoinSaid (vv 3 0 s) (vv t' n' s') (vv 3 0 c) 0)
    (h7 : LenSaid (vv t' n' s') K 0) (h8 : LenSaid (vv 3 0 c) L 0) (b1 : 0 ≤ N) (b2 : N ≤ 100) (b3 : 0 ≤ K) (b4 : K ≤ 100) (hL : L ≤ N + K) (hlen : (s.size : Int) ≤ (c.size : Int)) (hpre : c.extract 0 s.size = s) (hs : s.size ≤ 100) (hs' : s'.size ≤ 100)
    (hbig : (100 : Int) < (s.size : Int) + (s'.size : Int)) :
    Calls Tryd.prog 4 #[vv 3 0 s, vv t' n' s'] w fun e w' => e = .returned (.bool true) ∧ Below w.heap.size w w' := by
  have Ht := Lib.hid ht
  clear ht
  go_enter Tryd.func4, Tryd.ntmps4
  go_wp2_with fail
  have hP1 : Below w.heap.size w _ := ((Below.refl _ _).alloc (Nat.le_refl _) (.cells #[Value.int .i64 3, Value.int .i64 0, Value.string s] 23)).alloc (by simp) (.cells #[Value.int .i64 t', Value.int .i64 n', Value.string s'] 23)
  refine (h1 _ (Ht.out.below hP1)).mono ?_
  rintro e w1 ⟨rfl, hb1⟩
  have hB1 : Below w.heap.size w w1 := hP1.trans (hb1.mono hP1.size)
  have q1_0_0 : w1.cell? ⟨w.heap.size, 0, none⟩ = some (.int .i64 3) := keepB hb1 (by go_simp)
  have q1_0_1 : w1.cell? ⟨w.heap.size, 1, none⟩ = some (.int .i64 0) := keepB hb1 (by go_simp)
  have q1_0_2 : w1.cell? ⟨w.heap.size, 2, none⟩ = some (.string s) := keepB hb1 (by go_simp)
  have z1_0 : w.heap.size < w1.heap.size := World.block_lt_of_cell? _ _ q1_0_0
  have q1_1_0 : w1.cell? ⟨w.heap.size + 1, 0, none⟩ = some (.int .i64 t') := keepB hb1 (by go_simp)
  have q1_1_1 : w1.cell? ⟨w.heap.size + 1, 1, none⟩ = some (.int .i64 n') := keepB hb1 (by go_simp)
  have q1_1_2 : w1.cell? ⟨w.heap.size + 1, 2, none⟩ = some (.string s') := keepB hb1 (by go_simp)
  have z1_1 : w.heap.size + 1 < w1.heap.size := World.block_lt_of_cell? _ _ q1_1_0
  clear hb1
  go_wp2_with fail
  have hP2 : Below w.heap.size w _ := (hB1).alloc hB1.size (.cells #[Value.int .i64 3, Value.int .i64 0, Value.string ⟨#[98, 97]⟩] 23)
  refine (h2 _ (Ht.out.below hP2)).mono ?_
  rintro e w2 ⟨rfl, hb2⟩
  have hB2 : Below w.heap.size w w2 := hP2.trans (hb2.mono hP2.size)
  have q2_0_0 : w2.cell? ⟨w.heap.size, 0, none⟩ = some (.int .i64 3) := keepB hb2 (by go_simp)
  have q2_0_1 : w2.cell? ⟨w.heap.size, 1, none⟩ = some (.int .i64 0) := keepB hb2 (by go_simp)
  have q2_0_2 : w2.cell? ⟨w.heap.size, 2, none⟩ = some (.string s) := keepB hb2 (by go_simp)
  have z2_0 : w.heap.size < w2.heap.size := World.block_lt_of_cell? _ _ q2_0_0
  have q2_1_0 : w2.cell? ⟨w.heap.size + 1, 0, none⟩ = some (.int .i64 t') := keepB hb2 (by go_simp)
  have q2_1_1 : w2.cell? ⟨w.heap.size + 1, 1, none⟩ = some (.int .i64 n') := keepB hb2 (by go_simp)
  have q2_1_2 : w2.cell? ⟨w.heap.size + 1, 2, none⟩ = some (.string s') := keepB hb2 (by go_simp)
  have z2_1 : w.heap.size + 1 < w2.heap.size := World.block_lt_of_cell? _ _ q2_1_0
  have q2_2_0 : w2.cell? ⟨w1.heap.size, 0, none⟩ = some (.int .i64 3) := keepB hb2 (by go_simp)
  have q2_2_1 : w2.cell? ⟨w1.heap.size, 1, none⟩ = some (.int .i64 0) := keepB hb2 (by go_simp)
  have q2_2_2 : w2.cell? ⟨w1.heap.size, 2, none⟩ = some (.string ⟨#[98, 97]⟩) := keepB hb2 (by go_simp)
  have z2_2 : w1.heap.size < w2.heap.size := World.block_lt_of_cell? _ _ q2_2_0
  clear q1_0_0 q1_0_1 q1_0_2 z1_0 q1_1_0 q1_1_1 q1_1_2 z1_1 hb2
  clear hP2
  go_wp2_with fail
  have hP3 : Below w.heap.size w _ := (hB2).alloc hB2.size (.cells #[Value.int .i64 3, Value.int .i64 0, Value.string x] 23)
  refine (h3 _ (Ht.out.below hP3)).mono ?_
  rintro e w3 ⟨rfl, hb3⟩
  have hB3 : Below w.heap.size w w3 := hP3.trans (hb3.mono hP3.size)
  have q3_0_0 : w3.cell? ⟨w.heap.size, 0, none⟩ = some (.int .i64 3) := keepB hb3 (by go_simp)
  have q3_0_1 : w3.cell? ⟨w.heap.size, 1, none⟩ = some (.int .i64 0) := keepB hb3 (by go_simp)
  have q3_0_2 : w3.cell? ⟨w.heap.size, 2, none⟩ = some (.string s) := keepB hb3 (by go_simp)
  have z3_0 : w.heap.size < w3.heap.size := World.block_lt_of_cell? _ _ q3_0_0
  have q3_1_0 : w3.cell? ⟨w.heap.size + 1, 0, none⟩ = some (.int .i64 t') := keepB hb3 (by go_simp)
  have q3_1_1 : w3.cell? ⟨w.heap.size + 1, 1, none⟩ = some (.int .i64 n') := keepB hb3 (by go_simp)
  have q3_1_2 : w3.cell? ⟨w.heap.size + 1, 2, none⟩ = some (.string s') := keepB hb3 (by go_simp)
  have z3_1 : w.heap.size + 1 < w3.heap.size := World.block_lt_of_cell? _ _ q3_1_0
  have q3_2_0 : w3.cell? ⟨w1.heap.size, 0, none⟩ = some (.int .i64 3) := keepB hb3 (by go_simp)
  have q3_2_1 : w3.cell? ⟨w1.heap.size, 1, none⟩ = some (.int .i64 0) := keepB hb3 (by go_simp)
  have q3_2_2 : w3.cell? ⟨w1.heap.size, 2, none⟩ = some (.string ⟨#[98, 97]⟩) := keepB hb3 (by go_simp)
  have z3_2 : w1.heap.size < w3.heap.size := World.block_lt_of_cell? _ _ q3_2_0
  have q3_3_0 : w3.cell? ⟨w2.heap.size, 0, none⟩ = some (.int .i64 3) := keepB hb3 (by go_simp)
  have q3_3_1 : w3.cell? ⟨w2.heap.size, 1, none⟩ = some (.int .i64 0) := keepB hb3 (by go_simp)
  have q3_3_2 : w3.cell? ⟨w2.heap.size, 2, none⟩ = some (.string x) := keepB hb3 (by go_simp)
  have z3_3 : w2.heap.size < w3.heap.size := World.block_lt_of_cell? _ _ q3_3_0
  clear q2_0_0 q2_0_1 q2_0_2 z2_0 q2_1_0 q2_1_1 q2_1_2 z2_1 q2_2_0 q2_2_1 q2_2_2 z2_2 hb3
  clear hP3
  go_wp2_with fail
  have hP4 : Below w.heap.size w _ := (hB3).alloc hB3.size (.cells #[Value.int .i64 3, Value.int .i64 0, Value.string s] 23)
  refine (h4 _ (Ht.out.below hP4)).mono ?_
  rintro e w4 ⟨rfl, hb4⟩
  have hB4 : Below w.heap.size w w4 := hP4.trans (hb4.mono hP4.size)
  have q4_0_0 : w4.cell? ⟨w.heap.size, 0, none⟩ = some (.int .i64 3) := keepB hb4 (by go_simp)
  have q4_0_1 : w4.cell? ⟨w.heap.size, 1, none⟩ = some (.int .i64 0) := keepB hb4 (by go_simp)
  have q4_0_2 : w4.cell? ⟨w.heap.size, 2, none⟩ = some (.string s) := keepB hb4 (by go_simp)
  have z4_0 : w.heap.size < w4.heap.size := World.block_lt_of_cell? _ _ q4_0_0
  have q4_1_0 : w4.cell? ⟨w.heap.size + 1, 0, none⟩ = some (.int .i64 t') := keepB hb4 (by go_simp)
  have q4_1_1 : w4.cell? ⟨w.heap.size + 1, 1, none⟩ = some (.int .i64 n') := keepB hb4 (by go_simp)
  have q4_1_2 : w4.cell? ⟨w.heap.size + 1, 2, none⟩ = some (.string s') := keepB hb4 (by go_simp)
  have z4_1 : w.heap.size + 1 < w4.heap.size := World.block_lt_of_cell? _ _ q4_1_0
  have q4_2_0 : w4.cell? ⟨w1.heap.size, 0, none⟩ = some (.int .i64 3) := keepB hb4 (by go_simp)
  have q4_2_1 : w4.cell? ⟨w1.heap.size, 1, none⟩ = some (.int .i64 0) := keepB hb4 (by go_simp)
  have q4_2_2 : w4.cell? ⟨w1.heap.size, 2, none⟩ = some (.string ⟨#[98, 97]⟩) := keepB hb4 (by go_simp)
  have z4_2 : w1.heap.size < w4.heap.size := World.block_lt_of_cell? _ _ q4_2_0
  have q4_3_0 : w4.cell? ⟨w2.heap.size, 0, none⟩ = some (.int .i64 3) := keepB hb4 (by go_simp)
  have q4_3_1 : w4.cell? ⟨w2.heap.size, 1, none⟩ = some (.int .i64 0) := keepB hb4 (by go_simp)
  have q4_3_2 : w4.cell? ⟨w2.heap.size, 2, none⟩ = some (.string x) := keepB hb4 (by go_simp)
  have z4_3 : w2.heap.size < w4.heap.size := World.block_lt_of_cell? _ _ q4_3_0
  have q4_4_0 : w4.cell? ⟨w3.heap.size, 0, none⟩ = some (.int .i64 3) := keepB hb4 (by go_simp)
  have q4_4_1 : w4.cell? ⟨w3.heap.size, 1, none⟩ = some (.int .i64 0) := keepB hb4 (by go_simp)
  have q4_4_2 : w4.cell? ⟨w3.heap.size, 2, none⟩ = some (.string s) := keepB hb4 (by go_simp)
  have z4_4 : w3.heap.size < w4.heap.size := World.block_lt_of_cell? _ _ q4_4_0
  clear q3_0_0 q3_0_1 q3_0_2 z3_0 q3_1_0 q3_1_1 q3_1_2 z3_1 q3_2_0 q3_2_1 q3_2_2 z3_2 q3_3_0 q3_3_1 q3_3_2 z3_3 hb4
  clear hP4
  go_wp2_with fail
  have hP5 : Below w.heap.size w _ := hB4
  refine (h5 _ (Ht.out.below hP5)).mono ?_
  rintro e w5 ⟨rfl, hb5⟩
  have hB5 : Below w.heap.size w w5 := hP5.trans (hb5.mono hP5.size)
  have q5_0_0 : w5.cell? ⟨w.heap.size, 0, none⟩ = some (.int .i64 3) := keepB hb5 (by go_simp)
  have q5_0_1 : w5.cell? ⟨w.heap.size, 1, none⟩ = some (.int .i64 0) := keepB hb5 (by go_simp)
  have q5_0_2 : w5.cell? ⟨w.heap.size, 2, none⟩ = some (.string s) := keepB hb5 (by go_simp)
  have z5_0 : w.heap.size < w5.heap.size := World.block_lt_of_cell? _ _ q5_0_0
  have q5_1_0 : w5.cell? ⟨w.heap.size + 1, 0, none⟩ = some (.int .i64 t') := keepB hb5 (by go_simp)
  have q5_1_1 : w5.cell? ⟨w.heap.size + 1, 1, none⟩ = some (.int .i64 n') := keepB hb5 (by go_simp)
  have q5_1_2 : w5.cell? ⟨w.heap.size + 1, 2, none⟩ = some (.string s') := keepB hb5 (by go_simp)
  have z5_1 : w.heap.size + 1 < w5.heap.size := World.block_lt_of_cell? _ _ q5_1_0
  have q5_2_0 : w5.cell? ⟨w1.heap.size, 0, none⟩ = some (.int .i64 3) := keepB hb5 (by go_simp)
  have q5_2_1 : w5.cell? ⟨w1.heap.size, 1, none⟩ = some (.int .i64 0) := keepB hb5 (by go_simp)
  have q5_2_2 : w5.cell? ⟨w1.heap.size, 2, none⟩ = some (.string ⟨#[98, 97]⟩) := keepB hb5 (by go_simp)
  have z5_2 : w1.heap.size < w5.heap.size := World.block_lt_of_cell? _ _ q5_2_0
  have q5_3_0 : w5.cell? ⟨w2.heap.size, 0, none⟩ = some (.int .i64 3) := keepB hb5 (by go_simp)
  have q5_3_1 : w5.cell? ⟨w2.heap.size, 1, none⟩ = some (.int .i64 0) := keepB hb5 (by go_simp)
  have q5_3_2 : w5.cell? ⟨w2.heap.size, 2, none⟩ = some (.string x) := keepB hb5 (by go_simp)
  have z5_3 : w2.heap.size < w5.heap.size := World.block_lt_of_cell? _ _ q5_3_0
  have q5_4_0 : w5.cell? ⟨w3.heap.size, 0, none⟩ = some (.int .i64 3) := keepB hb5 (by go_simp)
  have q5_4_1 : w5.cell? ⟨w3.heap.size, 1, none⟩ = some (.int .i64 0) := keepB hb5 (by go_simp)
  have q5_4_2 : w5.cell? ⟨w3.heap.size, 2, none⟩ = some (.string s) := keepB hb5 (by go_simp)
  have z5_4 : w3.heap.size < w5.heap.size := World.block_lt_of_cell? _ _ q5_4_0
  clear q4_0_0 q4_0_1 q4_0_2 z4_0 q4_1_0 q4_1_1 q4_1_2 z4_1 q4_2_0 q4_2_1 q4_2_2 z4_2 q4_3_0 q4_3_1 q4_3_2 z4_3 q4_4_0 q4_4_1 q4_4_2 z4_4 hb5
  clear hP5
  go_wp2_with fail
  have hP6 : Below w.heap.size w _ := hB5
  refine (h6 _ (Ht.out.below hP6)).mono ?_
  rintro e w6 ⟨rfl, hb6⟩
  have hB6 : Below w.heap.size w w6 := hP6.trans (hb6.mono hP6.size)
  have q6_0_0 : w6.cell? ⟨w.heap.size, 0, none⟩ = some (.int .i64 3) := keepB hb6 (by go_simp)
  have q6_0_1 : w6.cell? ⟨w.heap.size, 1, none⟩ = some (.int .i64 0) := keepB hb6 (by go_simp)
  have q6_0_2 : w6.cell? ⟨w.heap.size, 2, none⟩ = some (.string s) := keepB hb6 (by go_simp)
  have z6_0 : w.heap.size < w6.heap.size := World.block_lt_of_cell? _ _ q6_0_0
  have q6_1_0 : w6.cell? ⟨w.heap.size + 1, 0, none⟩ = some (.int .i64 t') := keepB hb6 (by go_simp)
  have q6_1_1 : w6.cell? ⟨w.heap.size + 1, 1, none⟩ = some (.int .i64 n') := keepB hb6 (by go_simp)
  have q6_1_2 : w6.cell? ⟨w.heap.size + 1, 2, none⟩ = some (.string s') := keepB hb6 (by go_simp)
  have z6_1 : w.heap.size + 1 < w6.heap.size := World.block_lt_of_cell? _ _ q6_1_0
  have q6_2_0 : w6.cell? ⟨w1.heap.size, 0, none⟩ = some (.int .i64 3) := keepB hb6 (by go_simp)
  have q6_2_1 : w6.cell? ⟨w1.heap.size, 1, none⟩ = some (.int .i64 0) := keepB hb6 (by go_simp)
  have q6_2_2 : w6.cell? ⟨w1.heap.size, 2, none⟩ = some (.string ⟨#[98, 97]⟩) := keepB hb6 (by go_simp)
  have z6_2 : w1.heap.size < w6.heap.size := World.block_lt_of_cell? _ _ q6_2_0
  have q6_3_0 : w6.cell? ⟨w2.heap.size, 0, none⟩ = some (.int .i64 3) := keepB hb6 (by go_simp)
  have q6_3_1 : w6.cell? ⟨w2.heap.size, 1, none⟩ = some (.int .i64 0) := keepB hb6 (by go_simp)
  have q6_3_2 : w6.cell? ⟨w2.heap.size, 2, none⟩ = some (.string x) := keepB hb6 (by go_simp)
  have z6_3 : w2.heap.size < w6.heap.size := World.block_lt_of_cell? _ _ q6_3_0
  have q6_4_0 : w6.cell? ⟨w3.heap.size, 0, none⟩ = some (.int .i64 3) := keepB hb6 (by go_simp)
  have q6_4_1 : w6.cell? ⟨w3.heap.size, 1, none⟩ = some (.int .i64 0) := keepB hb6 (by go_simp)
  have q6_4_2 : w6.cell? ⟨w3.heap.size, 2, none⟩ = some (.string s) := keepB hb6 (by go_simp)
  have z6_4 : w3.heap.size < w6.heap.size := World.block_lt_of_cell? _ _ q6_4_0
  clear q5_0_0 q5_0_1 q5_0_2 z5_0 q5_1_0 q5_1_1 q5_1_2 z5_1 q5_2_0 q5_2_1 q5_2_2 z5_2 q5_3_0 q5_3_1 q5_3_2 z5_3 q5_4_0 q5_4_1 q5_4_2 z5_4 hb6
  clear hP6
  go_wp2_with fail
  have hP7 : Below w.heap.size w _ := (hB6).alloc hB6.size (.cells #[Value.int .i64 3, Value.int .i64 0, Value.string c] 23)
  refine (h7 _ (Ht.out.below hP7)).mono ?_
  rintro e w7 ⟨rfl, hb7⟩
  have hB7 : Below w.heap.size w w7 := hP7.trans (hb7.mono hP7.size)
  have q7_0_0 : w7.cell? ⟨w.heap.size, 0, none⟩ = some (.int .i64 3) := keepB hb7 (by go_simp)
  have q7_0_1 : w7.cell? ⟨w.heap.size, 1, none⟩ = some (.int .i64 0) := keepB hb7 (by go_simp)
  have q7_0_2 : w7.cell? ⟨w.heap.size, 2, none⟩ = some (.string s) := keepB hb7 (by go_simp)
  have z7_0 : w.heap.size < w7.heap.size := World.block_lt_of_cell? _ _ q7_0_0
  have q7_1_0 : w7.cell? ⟨w.heap.size + 1, 0, none⟩ = some (.int .i64 t') := keepB hb7 (by go_simp)
  have q7_1_1 : w7.cell? ⟨w.heap.size + 1, 1, none⟩ = some (.int .i64 n') := keepB hb7 (by go_simp)
  have q7_1_2 : w7.cell? ⟨w.heap.size + 1, 2, none⟩ = some (.string s') := keepB hb7 (by go_simp)
  have z7_1 : w.heap.size + 1 < w7.heap.size := World.block_lt_of_cell? _ _ q7_1_0
  have q7_2_0 : w7.cell? ⟨w1.heap.size, 0, none⟩ = some (.int .i64 3) := keepB hb7 (by go_simp)
  have q7_2_1 : w7.cell? ⟨w1.heap.size, 1, none⟩ = some (.int .i64 0) := keepB hb7 (by go_simp)
  have q7_2_2 : w7.cell? ⟨w1.heap.size, 2, none⟩ = some (.string ⟨#[98, 97]⟩) := keepB hb7 (by go_simp)
  have z7_2 : w1.heap.size < w7.heap.size := World.block_lt_of_cell? _ _ q7_2_0
  have q7_3_0 : w7.cell? ⟨w2.heap.size, 0, none⟩ = some (.int .i64 3) := keepB hb7 (by go_simp)
  have q7_3_1 : w7.cell? ⟨w2.heap.size, 1, none⟩ = some (.int .i64 0) := keepB hb7 (by go_simp)
  have q7_3_2 : w7.cell? ⟨w2.heap.size, 2, none⟩ = some (.string x) := keepB hb7 (by go_simp)
  have z7_3 : w2.heap.size < w7.heap.size := World.block_lt_of_cell? _ _ q7_3_0
  have q7_4_0 : w7.cell? ⟨w3.heap.size, 0, none⟩ = some (.int .i64 3) := keepB hb7 (by go_simp)
  have q7_4_1 : w7.cell? ⟨w3.heap.size, 1, none⟩ = some (.int .i64 0) := keepB hb7 (by go_simp)
  have q7_4_2 : w7.cell? ⟨w3.heap.size, 2, none⟩ = some (.string s) := keepB hb7 (by go_simp)
  have z7_4 : w3.heap.size < w7.heap.size := World.block_lt_of_cell? _ _ q7_4_0
  have q7_5_0 : w7.cell? ⟨w6.heap.size, 0, none⟩ = some (.int .i64 3) := keepB hb7 (by go_simp)
  have q7_5_1 : w7.cell? ⟨w6.heap.size, 1, none⟩ = some (.int .i64 0) := keepB hb7 (by go_simp)
  have q7_5_2 : w7.cell? ⟨w6.heap.size, 2, none⟩ = some (.string c) := keepB hb7 (by go_simp)
  have z7_5 : w6.heap.size < w7.heap.size := World.block_lt_of_cell? _ _ q7_5_0
  clear q6_0_0 q6_0_1 q6_0_2 z6_0 q6_1_0 q6_1_1 q6_1_2 z6_1 q6_2_0 q6_2_1 q6_2_2 z6_2 q6_3_0 q6_3_1 q6_3_2 z6_3 q6_4_0 q6_4_1 q6_4_2 z6_4 hb7
  clear hP7
  go_wp2_with fail
  have hP8 : Below w.heap.size w _ := hB7
  refine (h8 _ (Ht.out.below hP8)).mono ?_
  rintro e w8 ⟨rfl, hb8⟩
  have hB8 : Below w.heap.size w w8 := hP8.trans (hb8.mono hP8.size)
  have q8_0_0 : w8.cell? ⟨w.heap.size, 0, none⟩ = some (.int .i64 3) := keepB hb8 (by go_simp)
  have q8_0_1 : w8.cell? ⟨w.heap.size, 1, none⟩ = some (.int .i64 0) := keepB hb8 (by go_simp)
  have q8_0_2 : w8.cell? ⟨w.heap.size, 2, none⟩ = some (.string s) := keepB hb8 (by go_simp)
  have z8_0 : w.heap.size < w8.heap.size := World.block_lt_of_cell? _ _ q8_0_0
  have q8_1_0 : w8.cell? ⟨w.heap.size + 1, 0, none⟩ = some (.int .i64 t') := keepB hb8 (by go_simp)
  have q8_1_1 : w8.cell? ⟨w.heap.size + 1, 1, none⟩ = some (.int .i64 n') := keepB hb8 (by go_simp)
  have q8_1_2 : w8.cell? ⟨w.heap.size + 1, 2, none⟩ = some (.string s') := keepB hb8 (by go_simp)
  have z8_1 : w.heap.size + 1 < w8.heap.size := World.block_lt_of_cell? _ _ q8_1_0
  have q8_2_0 : w8.cell? ⟨w1.heap.size, 0, none⟩ = some (.int .i64 3) := keepB hb8 (by go_simp)
  have q8_2_1 : w8.cell? ⟨w1.heap.size, 1, none⟩ = some (.int .i64 0) := keepB hb8 (by go_simp)
  have q8_2_2 : w8.cell? ⟨w1.heap.size, 2, none⟩ = some (.string ⟨#[98, 97]⟩) := keepB hb8 (by go_simp)
  have z8_2 : w1.heap.size < w8.heap.size := World.block_lt_of_cell? _ _ q8_2_0
  have q8_3_0 : w8.cell? ⟨w2.heap.size, 0, none⟩ = some (.int .i64 3) := keepB hb8 (by go_simp)
  have q8_3_1 : w8.cell? ⟨w2.heap.size, 1, none⟩ = some (.int .i64 0) := keepB hb8 (by go_simp)
  have q8_3_2 : w8.cell? ⟨w2.heap.size, 2, none⟩ = some (.string x) := keepB hb8 (by go_simp)
  have z8_3 : w2.heap.size < w8.heap.size := World.block_lt_of_cell? _ _ q8_3_0
  have q8_4_0 : w8.cell? ⟨w3.heap.size, 0, none⟩ = some (.int .i64 3) := keepB hb8 (by go_simp)
  have q8_4_1 : w8.cell? ⟨w3.heap.size, 1, none⟩ = some (.int .i64 0) := keepB hb8 (by go_simp)
  have q8_4_2 : w8.cell? ⟨w3.heap.size, 2, none⟩ = some (.string s) := keepB hb8 (by go_simp)
  have z8_4 : w3.heap.size < w8.heap.size := World.block_lt_of_cell? _ _ q8_4_0
  have q8_5_0 : w8.cell? ⟨w6.heap.size, 0, none⟩ = some (.int .i64 3) := keepB hb8 (by go_simp)
  have q8_5_1 : w8.cell? ⟨w6.heap.size, 1, none⟩ = some (.int .i64 0) := keepB hb8 (by go_simp)
  have q8_5_2 : w8.cell? ⟨w6.heap.size, 2, none⟩ = some (.string c) := keepB hb8 (by go_simp)
  have z8_5 : w6.heap.size < w8.heap.size := World.block_lt_of_cell? _ _ q8_5_0
  clear q7_0_0 q7_0_1 q7_0_2 z7_0 q7_1_0 q7_1_1 q7_1_2 z7_1 q7_2_0 q7_2_1 q7_2_2 z7_2 q7_3_0 q7_3_1 q7_3_2 z7_3 q7_4_0 q7_4_1 q7_4_2 z7_4 q7_5_0 q7_5_1 q7_5_2 z7_5 hb8
  clear hP8
  go_wp2_with fail
  have e1 : IntKind.i64.wrap (N + K) = N + K := IntWalk.i64_in _ (by omega)
  have e2 : decide (N + K < L) = false := by simp; omega
  have e3 : decide (c.size < s.size) = false := by simp; omega
  have e4 : ∀ wx, (Instr.slice 9 (.string c) none (some (.int .i64 s.size)) none).run Tryd.prog wx = .ok (.string s) wx := by
    intro wx
    rw [run_slice_string_h wx 9 c Tryd.underlying9 .i64 (s.size : Int) (by omega) (by omega)]
    simp [hpre]
  go_quiet (fail)
  go_wp2
  go_ret
  exact ⟨rfl, drewB hB8 _⟩

set_option maxRecDepth 100000 in
set_option maxHeartbeats 2000000 in
theorem join_p4 (t' n' N K : Int) (s s' x c p q : ByteArray) (w : World) (ht : Tabs w) (h1 : TurnSaid (vv 3 0 ⟨#[97, 98]⟩) (vv 3 0 ⟨#[98, 97]⟩) 0) (h2 : TurnSaid (vv 3 0 s) (vv 3 0 x) 0) (h3 : TurnSaid (vv 3 0 x) (vv 3 0 s) 0) (h4 : LenSaid (vv 3 0 s) N 0) (h5 : LenSaid (vv 3 0 x) N 0) (h6 : JoinSaid (vv 3 0 s) (vv t' n' s') (vv 3 0 c) 0)
    (h7 : LenSaid (vv t' n' s') K 0) (h8 : LenSaid (vv 3 0 c) (N + K) 0) (h9 : TurnSaid (vv t' n' s') (vv 3 0 p) 0) (h10 : JoinSaid (vv 3 0 p) (vv 3 0 x) (vv 3 0 q) 0) (h11 : TurnSaid (vv 3 0 c) (vv 3 0 q) 0)
    (b1 : 0 ≤ N) (b2 : N ≤ 100) (b3 : 0 ≤ K) (b4 : K ≤ 100) (hlen : (s.size : Int) ≤ (c.size : Int)) (hpre : c.extract 0 s.size = s) (hs : s.size ≤ 100) (hs' : s'.size ≤ 100)
    (hbig : ¬ (100 : Int) < (s.size : Int) + (s'.size : Int)) :
    Calls Tryd.prog 4 #[vv 3 0 s, vv t' n' s'] w fun e w' => e = .returned (.bool true) ∧ Below w.heap.size w w' := by
  have Ht := Lib.hid ht
  clear ht
  go_enter Tryd.func4, Tryd.ntmps4
  go_wp2_with fail
  have hP1 : Below w.heap.size w _ := ((Below.refl _ _).alloc (Nat.le_refl _) (.cells #[Value.int .i64 3, Value.int .i64 0, Value.string s] 23)).alloc (by simp) (.cells #[Value.int .i64 t', Value.int .i64 n', Value.string s'] 23)
  refine (h1 _ (Ht.out.below hP1)).mono ?_
  rintro e w1 ⟨rfl, hb1⟩
  have hB1 : Below w.heap.size w w1 := hP1.trans (hb1.mono hP1.size)
  have q1_0_0 : w1.cell? ⟨w.heap.size, 0, none⟩ = some (.int .i64 3) := keepB hb1 (by go_simp)
  have q1_0_1 : w1.cell? ⟨w.heap.size, 1, none⟩ = some (.int .i64 0) := keepB hb1 (by go_simp)
  have q1_0_2 : w1.cell? ⟨w.heap.size, 2, none⟩ = some (.string s) := keepB hb1 (by go_simp)
  have z1_0 : w.heap.size < w1.heap.size := World.block_lt_of_cell? _ _ q1_0_0
  have q1_1_0 : w1.cell? ⟨w.heap.size + 1, 0, none⟩ = some (.int .i64 t') := keepB hb1 (by go_simp)
  have q1_1_1 : w1.cell? ⟨w.heap.size + 1, 1, none⟩ = some (.int .i64 n') := keepB hb1 (by go_simp)
  have q1_1_2 : w1.cell? ⟨w.heap.size + 1, 2, none⟩ = some (.string s') := keepB hb1 (by go_simp)
  have z1_1 : w.heap.size + 1 < w1.heap.size := World.block_lt_of_cell? _ _ q1_1_0
  clear hb1
  go_wp2_with fail
  have hP2 : Below w.heap.size w _ := (hB1).alloc hB1.size (.cells #[Value.int .i64 3, Value.int .i64 0, Value.string ⟨#[98, 97]⟩] 23)
  refine (h2 _ (Ht.out.below hP2)).mono ?_
  rintro e w2 ⟨rfl, hb2⟩
  have hB2 : Below w.heap.size w w2 := hP2.trans (hb2.mono hP2.size)
  have q2_0_0 : w2.cell? ⟨w.heap.size, 0, none⟩ = some (.int .i64 3) := keepB hb2 (by go_simp)
  have q2_0_1 : w2.cell? ⟨w.heap.size, 1, none⟩ = some (.int .i64 0) := keepB hb2 (by go_simp)
  have q2_0_2 : w2.cell? ⟨w.heap.size, 2, none⟩ = some (.string s) := keepB hb2 (by go_simp)
  have z2_0 : w.heap.size < w2.heap.size := World.block_lt_of_cell? _ _ q2_0_0
  have q2_1_0 : w2.cell? ⟨w.heap.size + 1, 0, none⟩ = some (.int .i64 t') := keepB hb2 (by go_simp)
  have q2_1_1 : w2.cell? ⟨w.heap.size + 1, 1, none⟩ = some (.int .i64 n') := keepB hb2 (by go_simp)
  have q2_1_2 : w2.cell? ⟨w.heap.size + 1, 2, none⟩ = some (.string s') := keepB hb2 (by go_simp)
  have z2_1 : w.heap.size + 1 < w2.heap.size := World.block_lt_of_cell? _ _ q2_1_0
  have q2_2_0 : w2.cell? ⟨w1.heap.size, 0, none⟩ = some (.int .i64 3) := keepB hb2 (by go_simp)
  have q2_2_1 : w2.cell? ⟨w1.heap.size, 1, none⟩ = some (.int .i64 0) := keepB hb2 (by go_simp)
  have q2_2_2 : w2.cell? ⟨w1.heap.size, 2, none⟩ = some (.string ⟨#[98, 97]⟩) := keepB hb2 (by go_simp)
  have z2_2 : w1.heap.size < w2.heap.size := World.block_lt_of_cell? _ _ q2_2_0
  clear q1_0_0 q1_0_1 q1_0_2 z1_0 q1_1_0 q1_1_1 q1_1_2 z1_1 hb2
  clear hP2
  go_wp2_with fail
  have hP3 : Below w.heap.size w _ := (hB2).alloc hB2.size (.cells #[Value.int .i64 3, Value.int .i64 0, Value.string x] 23)
  refine (h3 _ (Ht.out.below hP3)).mono ?_
  rintro e w3 ⟨rfl, hb3⟩
  have hB3 : Below w.heap.size w w3 := hP3.trans (hb3.mono hP3.size)
  have q3_0_0 : w3.cell? ⟨w.heap.size, 0, none⟩ = some (.int .i64 3) := keepB hb3 (by go_simp)
  have q3_0_1 : w3.cell? ⟨w.heap.size, 1, none⟩ = some (.int .i64 0) := keepB hb3 (by go_simp)
  have q3_0_2 : w3.cell? ⟨w.heap.size, 2, none⟩ = some (.string s) := keepB hb3 (by go_simp)
  have z3_0 : w.heap.size < w3.heap.size := World.block_lt_of_cell? _ _ q3_0_0
  have q3_1_0 : w3.cell? ⟨w.heap.size + 1, 0, none⟩ = some (.int .i64 t') := keepB hb3 (by go_simp)
  have q3_1_1 : w3.cell? ⟨w.heap.size + 1, 1, none⟩ = some (.int .i64 n') := keepB hb3 (by go_simp)
  have q3_1_2 : w3.cell? ⟨w.heap.size + 1, 2, none⟩ = some (.string s') := keepB hb3 (by go_simp)
  have z3_1 : w.heap.size + 1 < w3.heap.size := World.block_lt_of_cell? _ _ q3_1_0
  have q3_2_0 : w3.cell? ⟨w1.heap.size, 0, none⟩ = some (.int .i64 3) := keepB hb3 (by go_simp)
  have q3_2_1 : w3.cell? ⟨w1.heap.size, 1, none⟩ = some (.int .i64 0) := keepB hb3 (by go_simp)
  have q3_2_2 : w3.cell? ⟨w1.heap.size, 2, none⟩ = some (.string ⟨#[98, 97]⟩) := keepB hb3 (by go_simp)
  have z3_2 : w1.heap.size < w3.heap.size := World.block_lt_of_cell? _ _ q3_2_0
  have q3_3_0 : w3.cell? ⟨w2.heap.size, 0, none⟩ = some (.int .i64 3) := keepB hb3 (by go_simp)
  have q3_3_1 : w3.cell? ⟨w2.heap.size, 1, none⟩ = some (.int .i64 0) := keepB hb3 (by go_simp)
  have q3_3_2 : w3.cell? ⟨w2.heap.size, 2, none⟩ = some (.string x) := keepB hb3 (by go_simp)
  have z3_3 : w2.heap.size < w3.heap.size := World.block_lt_of_cell? _ _ q3_3_0
  clear q2_0_0 q2_0_1 q2_0_2 z2_0 q2_1_0 q2_1_1 q2_1_2 z2_1 q2_2_0 q2_2_1 q2_2_2 z2_2 hb3
  clear hP3
  go_wp2_with fail
  have hP4 : Below w.heap.size w _ := (hB3).alloc hB3.size (.cells #[Value.int .i64 3, Value.int .i64 0, Value.string s] 23)
  refine (h4 _ (Ht.out.below hP4)).mono ?_
  rintro e w4 ⟨rfl, hb4⟩
  have hB4 : Below w.heap.size w w4 := hP4.trans (hb4.mono hP4.size)
  have q4_0_0 : w4.cell? ⟨w.heap.size, 0, none⟩ = some (.int .i64 3) := keepB hb4 (by go_simp)
  have q4_0_1 : w4.cell? ⟨w.heap.size, 1, none⟩ = some (.int .i64 0) := keepB hb4 (by go_simp)
  have q4_0_2 : w4.cell? ⟨w.heap.size, 2, none⟩ = some (.string s) := keepB hb4 (by go_simp)
  have z4_0 : w.heap.size < w4.heap.size := World.block_lt_of_cell? _ _ q4_0_0
  have q4_1_0 : w4.cell? ⟨w.heap.size + 1, 0, none⟩ = some (.int .i64 t') := keepB hb4 (by go_simp)
  have q4_1_1 : w4.cell? ⟨w.heap.size + 1, 1, none⟩ = some (.int .i64 n') := keepB hb4 (by go_simp)
  have q4_1_2 : w4.cell? ⟨w.heap.size + 1, 2, none⟩ = some (.string s') := keepB hb4 (by go_simp)
  have z4_1 : w.heap.size + 1 < w4.heap.size := World.block_lt_of_cell? _ _ q4_1_0
  have q4_2_0 : w4.cell? ⟨w1.heap.size, 0, none⟩ = some (.int .i64 3) := keepB hb4 (by go_simp)
  have q4_2_1 : w4.cell? ⟨w1.heap.size, 1, none⟩ = some (.int .i64 0) := keepB hb4 (by go_simp)
  have q4_2_2 : w4.cell? ⟨w1.heap.size, 2, none⟩ = some (.string ⟨#[98, 97]⟩) := keepB hb4 (by go_simp)
  have z4_2 : w1.heap.size < w4.heap.size := World.block_lt_of_cell? _ _ q4_2_0
  have q4_3_0 : w4.cell? ⟨w2.heap.size, 0, none⟩ = some (.int .i64 3) := keepB hb4 (by go_simp)
  have q4_3_1 : w4.cell? ⟨w2.heap.size, 1, none⟩ = some (.int .i64 0) := keepB hb4 (by go_simp)
  have q4_3_2 : w4.cell? ⟨w2.heap.size, 2, none⟩ = some (.string x) := keepB hb4 (by go_simp)
  have z4_3 : w2.heap.size < w4.heap.size := World.block_lt_of_cell? _ _ q4_3_0
  have q4_4_0 : w4.cell? ⟨w3.heap.size, 0, none⟩ = some (.int .i64 3) := keepB hb4 (by go_simp)
  have q4_4_1 : w4.cell? ⟨w3.heap.size, 1, none⟩ = some (.int .i64 0) := keepB hb4 (by go_simp)
  have q4_4_2 : w4.cell? ⟨w3.heap.size, 2, none⟩ = some (.string s) := keepB hb4 (by go_simp)
  have z4_4 : w3.heap.size < w4.heap.size := World.block_lt_of_cell? _ _ q4_4_0
  clear q3_0_0 q3_0_1 q3_0_2 z3_0 q3_1_0 q3_1_1 q3_1_2 z3_1 q3_2_0 q3_2_1 q3_2_2 z3_2 q3_3_0 q3_3_1 q3_3_2 z3_3 hb4
  clear hP4
  go_wp2_with fail
  have hP5 : Below w.heap.size w _ := hB4
  refine (h5 _ (Ht.out.below hP5)).mono ?_
  rintro e w5 ⟨rfl, hb5⟩
  have hB5 : Below w.heap.size w w5 := hP5.trans (hb5.mono hP5.size)
  have q5_0_0 : w5.cell? ⟨w.heap.size, 0, none⟩ = some (.int .i64 3) := keepB hb5 (by go_simp)
  have q5_0_1 : w5.cell? ⟨w.heap.size, 1, none⟩ = some (.int .i64 0) := keepB hb5 (by go_simp)
  have q5_0_2 : w5.cell? ⟨w.heap.size, 2, none⟩ = some (.string s) := keepB hb5 (by go_simp)
  have z5_0 : w.heap.size < w5.heap.size := World.block_lt_of_cell? _ _ q5_0_0
  have q5_1_0 : w5.cell? ⟨w.heap.size + 1, 0, none⟩ = some (.int .i64 t') := keepB hb5 (by go_simp)
  have q5_1_1 : w5.cell? ⟨w.heap.size + 1, 1, none⟩ = some (.int .i64 n') := keepB hb5 (by go_simp)
  have q5_1_2 : w5.cell? ⟨w.heap.size + 1, 2, none⟩ = some (.string s') := keepB hb5 (by go_simp)
  have z5_1 : w.heap.size + 1 < w5.heap.size := World.block_lt_of_cell? _ _ q5_1_0
  have q5_2_0 : w5.cell? ⟨w1.heap.size, 0, none⟩ = some (.int .i64 3) := keepB hb5 (by go_simp)
  have q5_2_1 : w5.cell? ⟨w1.heap.size, 1, none⟩ = some (.int .i64 0) := keepB hb5 (by go_simp)
  have q5_2_2 : w5.cell? ⟨w1.heap.size, 2, none⟩ = some (.string ⟨#[98, 97]⟩) := keepB hb5 (by go_simp)
  have z5_2 : w1.heap.size < w5.heap.size := World.block_lt_of_cell? _ _ q5_2_0
  have q5_3_0 : w5.cell? ⟨w2.heap.size, 0, none⟩ = some (.int .i64 3) := keepB hb5 (by go_simp)
  have q5_3_1 : w5.cell? ⟨w2.heap.size, 1, none⟩ = some (.int .i64 0) := keepB hb5 (by go_simp)
  have q5_3_2 : w5.cell? ⟨w2.heap.size, 2, none⟩ = some (.string x) := keepB hb5 (by go_simp)
  have z5_3 : w2.heap.size < w5.heap.size := World.block_lt_of_cell? _ _ q5_3_0
  have q5_4_0 : w5.cell? ⟨w3.heap.size, 0, none⟩ = some (.int .i64 3) := keepB hb5 (by go_simp)
  have q5_4_1 : w5.cell? ⟨w3.heap.size, 1, none⟩ = some (.int .i64 0) := keepB hb5 (by go_simp)
  have q5_4_2 : w5.cell? ⟨w3.heap.size, 2, none⟩ = some (.string s) := keepB hb5 (by go_simp)
  have z5_4 : w3.heap.size < w5.heap.size := World.block_lt_of_cell? _ _ q5_4_0
  clear q4_0_0 q4_0_1 q4_0_2 z4_0 q4_1_0 q4_1_1 q4_1_2 z4_1 q4_2_0 q4_2_1 q4_2_2 z4_2 q4_3_0 q4_3_1 q4_3_2 z4_3 q4_4_0 q4_4_1 q4_4_2 z4_4 hb5
  clear hP5
  go_wp2_with fail
  have hP6 : Below w.heap.size w _ := hB5
  refine (h6 _ (Ht.out.below hP6)).mono ?_
  rintro e w6 ⟨rfl, hb6⟩
  have hB6 : Below w.heap.size w w6 := hP6.trans (hb6.mono hP6.size)
  have q6_0_0 : w6.cell? ⟨w.heap.size, 0, none⟩ = some (.int .i64 3) := keepB hb6 (by go_simp)
  have q6_0_1 : w6.cell? ⟨w.heap.size, 1, none⟩ = some (.int .i64 0) := keepB hb6 (by go_simp)
  have q6_0_2 : w6.cell? ⟨w.heap.size, 2, none⟩ = some (.string s) := keepB hb6 (by go_simp)
  have z6_0 : w.heap.size < w6.heap.size := World.block_lt_of_cell? _ _ q6_0_0
  have q6_1_0 : w6.cell? ⟨w.heap.size + 1, 0, none⟩ = some (.int .i64 t') := keepB hb6 (by go_simp)
  have q6_1_1 : w6.cell? ⟨w.heap.size + 1, 1, none⟩ = some (.int .i64 n') := keepB hb6 (by go_simp)
  have q6_1_2 : w6.cell? ⟨w.heap.size + 1, 2, none⟩ = some (.string s') := keepB hb6 (by go_simp)
  have z6_1 : w.heap.size + 1 < w6.heap.size := World.block_lt_of_cell? _ _ q6_1_0
  have q6_2_0 : w6.cell? ⟨w1.heap.size, 0, none⟩ = some (.int .i64 3) := keepB hb6 (by go_simp)
  have q6_2_1 : w6.cell? ⟨w1.heap.size, 1, none⟩ = some (.int .i64 0) := keepB hb6 (by go_simp)
  have q6_2_2 : w6.cell? ⟨w1.heap.size, 2, none⟩ = some (.string ⟨#[98, 97]⟩) := keepB hb6 (by go_simp)
  have z6_2 : w1.heap.size < w6.heap.size := World.block_lt_of_cell? _ _ q6_2_0
  have q6_3_0 : w6.cell? ⟨w2.heap.size, 0, none⟩ = some (.int .i64 3) := keepB hb6 (by go_simp)
  have q6_3_1 : w6.cell? ⟨w2.heap.size, 1, none⟩ = some (.int .i64 0) := keepB hb6 (by go_simp)
  have q6_3_2 : w6.cell? ⟨w2.heap.size, 2, none⟩ = some (.string x) := keepB hb6 (by go_simp)
  have z6_3 : w2.heap.size < w6.heap.size := World.block_lt_of_cell? _ _ q6_3_0
  have q6_4_0 : w6.cell? ⟨w3.heap.size, 0, none⟩ = some (.int .i64 3) := keepB hb6 (by go_simp)
  have q6_4_1 : w6.cell? ⟨w3.heap.size, 1, none⟩ = some (.int .i64 0) := keepB hb6 (by go_simp)
  have q6_4_2 : w6.cell? ⟨w3.heap.size, 2, none⟩ = some (.string s) := keepB hb6 (by go_simp)
  have z6_4 : w3.heap.size < w6.heap.size := World.block_lt_of_cell? _ _ q6_4_0
  clear q5_0_0 q5_0_1 q5_0_2 z5_0 q5_1_0 q5_1_1 q5_1_2 z5_1 q5_2_0 q5_2_1 q5_2_2 z5_2 q5_3_0 q5_3_1 q5_3_2 z5_3 q5_4_0 q5_4_1 q5_4_2 z5_4 hb6
  clear hP6
  go_wp2_with fail
  have hP7 : Below w.heap.size w _ := (hB6).alloc hB6.size (.cells #[Value.int .i64 3, Value.int .i64 0, Value.string c] 23)
  refine (h7 _ (Ht.out.below hP7)).mono ?_
  rintro e w7 ⟨rfl, hb7⟩
  have hB7 : Below w.heap.size w w7 := hP7.trans (hb7.mono hP7.size)
  have q7_0_0 : w7.cell? ⟨w.heap.size, 0, none⟩ = some (.int .i64 3) := keepB hb7 (by go_simp)
  have q7_0_1 : w7.cell? ⟨w.heap.size, 1, none⟩ = some (.int .i64 0) := keepB hb7 (by go_simp)
  have q7_0_2 : w7.cell? ⟨w.heap.size, 2, none⟩ = some (.string s) := keepB hb7 (by go_simp)
  have z7_0 : w.heap.size < w7.heap.size := World.block_lt_of_cell? _ _ q7_0_0
  have q7_1_0 : w7.cell? ⟨w.heap.size + 1, 0, none⟩ = some (.int .i64 t') := keepB hb7 (by go_simp)
  have q7_1_1 : w7.cell? ⟨w.heap.size + 1, 1, none⟩ = some (.int .i64 n') := keepB hb7 (by go_simp)
  have q7_1_2 : w7.cell? ⟨w.heap.size + 1, 2, none⟩ = some (.string s') := keepB hb7 (by go_simp)
  have z7_1 : w.heap.size + 1 < w7.heap.size := World.block_lt_of_cell? _ _ q7_1_0
  have q7_2_0 : w7.cell? ⟨w1.heap.size, 0, none⟩ = some (.int .i64 3) := keepB hb7 (by go_simp)
  have q7_2_1 : w7.cell? ⟨w1.heap.size, 1, none⟩ = some (.int .i64 0) := keepB hb7 (by go_simp)
  have q7_2_2 : w7.cell? ⟨w1.heap.size, 2, none⟩ = some (.string ⟨#[98, 97]⟩) := keepB hb7 (by go_simp)
  have z7_2 : w1.heap.size < w7.heap.size := World.block_lt_of_cell? _ _ q7_2_0
  have q7_3_0 : w7.cell? ⟨w2.heap.size, 0, none⟩ = some (.int .i64 3) := keepB hb7 (by go_simp)
  have q7_3_1 : w7.cell? ⟨w2.heap.size, 1, none⟩ = some (.int .i64 0) := keepB hb7 (by go_simp)
  have q7_3_2 : w7.cell? ⟨w2.heap.size, 2, none⟩ = some (.string x) := keepB hb7 (by go_simp)
  have z7_3 : w2.heap.size < w7.heap.size := World.block_lt_of_cell? _ _ q7_3_0
  have q7_4_0 : w7.cell? ⟨w3.heap.size, 0, none⟩ = some (.int .i64 3) := keepB hb7 (by go_simp)
  have q7_4_1 : w7.cell? ⟨w3.heap.size, 1, none⟩ = some (.int .i64 0) := keepB hb7 (by go_simp)
  have q7_4_2 : w7.cell? ⟨w3.heap.size, 2, none⟩ = some (.string s) := keepB hb7 (by go_simp)
  have z7_4 : w3.heap.size < w7.heap.size := World.block_lt_of_cell? _ _ q7_4_0
  have q7_5_0 : w7.cell? ⟨w6.heap.size, 0, none⟩ = some (.int .i64 3) := keepB hb7 (by go_simp)
  have q7_5_1 : w7.cell? ⟨w6.heap.size, 1, none⟩ = some (.int .i64 0) := keepB hb7 (by go_simp)
  have q7_5_2 : w7.cell? ⟨w6.heap.size, 2, none⟩ = some (.string c) := keepB hb7 (by go_simp)
  have z7_5 : w6.heap.size < w7.heap.size := World.block_lt_of_cell? _ _ q7_5_0
  clear q6_0_0 q6_0_1 q6_0_2 z6_0 q6_1_0 q6_1_1 q6_1_2 z6_1 q6_2_0 q6_2_1 q6_2_2 z6_2 q6_3_0 q6_3_1 q6_3_2 z6_3 q6_4_0 q6_4_1 q6_4_2 z6_4 hb7
  clear hP7
  go_wp2_with fail
  have hP8 : Below w.heap.size w _ := hB7
  refine (h8 _ (Ht.out.below hP8)).mono ?_
  rintro e w8 ⟨rfl, hb8⟩
  have hB8 : Below w.heap.size w w8 := hP8.trans (hb8.mono hP8.size)
  have q8_0_0 : w8.cell? ⟨w.heap.size, 0, none⟩ = some (.int .i64 3) := keepB hb8 (by go_simp)
  have q8_0_1 : w8.cell? ⟨w.heap.size, 1, none⟩ = some (.int .i64 0) := keepB hb8 (by go_simp)
  have q8_0_2 : w8.cell? ⟨w.heap.size, 2, none⟩ = some (.string s) := keepB hb8 (by go_simp)
  have z8_0 : w.heap.size < w8.heap.size := World.block_lt_of_cell? _ _ q8_0_0
  have q8_1_0 : w8.cell? ⟨w.heap.size + 1, 0, none⟩ = some (.int .i64 t') := keepB hb8 (by go_simp)
  have q8_1_1 : w8.cell? ⟨w.heap.size + 1, 1, none⟩ = some (.int .i64 n') := keepB hb8 (by go_simp)
  have q8_1_2 : w8.cell? ⟨w.heap.size + 1, 2, none⟩ = some (.string s') := keepB hb8 (by go_simp)
  have z8_1 : w.heap.size + 1 < w8.heap.size := World.block_lt_of_cell? _ _ q8_1_0
  have q8_2_0 : w8.cell? ⟨w1.heap.size, 0, none⟩ = some (.int .i64 3) := keepB hb8 (by go_simp)
  have q8_2_1 : w8.cell? ⟨w1.heap.size, 1, none⟩ = some (.int .i64 0) := keepB hb8 (by go_simp)
  have q8_2_2 : w8.cell? ⟨w1.heap.size, 2, none⟩ = some (.string ⟨#[98, 97]⟩) := keepB hb8 (by go_simp)
  have z8_2 : w1.heap.size < w8.heap.size := World.block_lt_of_cell? _ _ q8_2_0
  have q8_3_0 : w8.cell? ⟨w2.heap.size, 0, none⟩ = some (.int .i64 3) := keepB hb8 (by go_simp)
  have q8_3_1 : w8.cell? ⟨w2.heap.size, 1, none⟩ = some (.int .i64 0) := keepB hb8 (by go_simp)
  have q8_3_2 : w8.cell? ⟨w2.heap.size, 2, none⟩ = some (.string x) := keepB hb8 (by go_simp)
  have z8_3 : w2.heap.size < w8.heap.size := World.block_lt_of_cell? _ _ q8_3_0
  have q8_4_0 : w8.cell? ⟨w3.heap.size, 0, none⟩ = some (.int .i64 3) := keepB hb8 (by go_simp)
  have q8_4_1 : w8.cell? ⟨w3.heap.size, 1, none⟩ = some (.int .i64 0) := keepB hb8 (by go_simp)
  have q8_4_2 : w8.cell? ⟨w3.heap.size, 2, none⟩ = some (.string s) := keepB hb8 (by go_simp)
  have z8_4 : w3.heap.size < w8.heap.size := World.block_lt_of_cell? _ _ q8_4_0
  have q8_5_0 : w8.cell? ⟨w6.heap.size, 0, none⟩ = some (.int .i64 3) := keepB hb8 (by go_simp)
  have q8_5_1 : w8.cell? ⟨w6.heap.size, 1, none⟩ = some (.int .i64 0) := keepB hb8 (by go_simp)
  have q8_5_2 : w8.cell? ⟨w6.heap.size, 2, none⟩ = some (.string c) := keepB hb8 (by go_simp)
  have z8_5 : w6.heap.size < w8.heap.size := World.block_lt_of_cell? _ _ q8_5_0
  clear q7_0_0 q7_0_1 q7_0_2 z7_0 q7_1_0 q7_1_1 q7_1_2 z7_1 q7_2_0 q7_2_1 q7_2_2 z7_2 q7_3_0 q7_3_1 q7_3_2 z7_3 q7_4_0 q7_4_1 q7_4_2 z7_4 q7_5_0 q7_5_1 q7_5_2 z7_5 hb8
  clear hP8
  go_wp2_with fail
  have e1 : IntKind.i64.wrap (N + K) = N + K := IntWalk.i64_in _ (by omega)
  have e2 : decide (N + K < N + K) = false := by simp
  have e3 : decide (c.size < s.size) = false := by simp; omega
  have e4 : ∀ wx, (Instr.slice 9 (.string c) none (some (.int .i64 s.size)) none).run Tryd.prog wx = .ok (.string s) wx := by
    intro wx
    rw [run_slice_string_h wx 9 c Tryd.underlying9 .i64 (s.size : Int) (by omega) (by omega)]
    simp [hpre]
  go_quiet (fail)
  clear e1 e2 e3 e4
  have hB8d := drewB hB8 nq
  clear hB8
  go_wp2_with fail
  have hP9 : Below w.heap.size w _ := hB8d
  refine (h9 _ (Ht.out.below hP9)).mono ?_
  rintro e w9 ⟨rfl, hb9⟩
  have hB9 : Below w.heap.size w w9 := hP9.trans (hb9.mono hP9.size)
  have q9_0_0 : w9.cell? ⟨w.heap.size, 0, none⟩ = some (.int .i64 3) := keepB hb9 (by go_simp)
  have q9_0_1 : w9.cell? ⟨w.heap.size, 1, none⟩ = some (.int .i64 0) := keepB hb9 (by go_simp)
  have q9_0_2 : w9.cell? ⟨w.heap.size, 2, none⟩ = some (.string s) := keepB hb9 (by go_simp)
  have z9_0 : w.heap.size < w9.heap.size := World.block_lt_of_cell? _ _ q9_0_0
  have q9_1_0 : w9.cell? ⟨w.heap.size + 1, 0, none⟩ = some (.int .i64 t') := keepB hb9 (by go_simp)
  have q9_1_1 : w9.cell? ⟨w.heap.size + 1, 1, none⟩ = some (.int .i64 n') := keepB hb9 (by go_simp)
  have q9_1_2 : w9.cell? ⟨w.heap.size + 1, 2, none⟩ = some (.string s') := keepB hb9 (by go_simp)
  have z9_1 : w.heap.size + 1 < w9.heap.size := World.block_lt_of_cell? _ _ q9_1_0
  have q9_2_0 : w9.cell? ⟨w1.heap.size, 0, none⟩ = some (.int .i64 3) := keepB hb9 (by go_simp)
  have q9_2_1 : w9.cell? ⟨w1.heap.size, 1, none⟩ = some (.int .i64 0) := keepB hb9 (by go_simp)
  have q9_2_2 : w9.cell? ⟨w1.heap.size, 2, none⟩ = some (.string ⟨#[98, 97]⟩) := keepB hb9 (by go_simp)
  have z9_2 : w1.heap.size < w9.heap.size := World.block_lt_of_cell? _ _ q9_2_0
  have q9_3_0 : w9.cell? ⟨w2.heap.size, 0, none⟩ = some (.int .i64 3) := keepB hb9 (by go_simp)
  have q9_3_1 : w9.cell? ⟨w2.heap.size, 1, none⟩ = some (.int .i64 0) := keepB hb9 (by go_simp)
  have q9_3_2 : w9.cell? ⟨w2.heap.size, 2, none⟩ = some (.string x) := keepB hb9 (by go_simp)
  have z9_3 : w2.heap.size < w9.heap.size := World.block_lt_of_cell? _ _ q9_3_0
  have q9_4_0 : w9.cell? ⟨w3.heap.size, 0, none⟩ = some (.int .i64 3) := keepB hb9 (by go_simp)
  have q9_4_1 : w9.cell? ⟨w3.heap.size, 1, none⟩ = some (.int .i64 0) := keepB hb9 (by go_simp)
  have q9_4_2 : w9.cell? ⟨w3.heap.size, 2, none⟩ = some (.string s) := keepB hb9 (by go_simp)
  have z9_4 : w3.heap.size < w9.heap.size := World.block_lt_of_cell? _ _ q9_4_0
  have q9_5_0 : w9.cell? ⟨w6.heap.size, 0, none⟩ = some (.int .i64 3) := keepB hb9 (by go_simp)
  have q9_5_1 : w9.cell? ⟨w6.heap.size, 1, none⟩ = some (.int .i64 0) := keepB hb9 (by go_simp)
  have q9_5_2 : w9.cell? ⟨w6.heap.size, 2, none⟩ = some (.string c) := keepB hb9 (by go_simp)
  have z9_5 : w6.heap.size < w9.heap.size := World.block_lt_of_cell? _ _ q9_5_0
  clear q8_0_0 q8_0_1 q8_0_2 z8_0 q8_1_0 q8_1_1 q8_1_2 z8_1 q8_2_0 q8_2_1 q8_2_2 z8_2 q8_3_0 q8_3_1 q8_3_2 z8_3 q8_4_0 q8_4_1 q8_4_2 z8_4 q8_5_0 q8_5_1 q8_5_2 z8_5 hb9
  clear hP9
  go_wp2_with fail
  have hP10 : Below w.heap.size w _ := (hB9).alloc hB9.size (.cells #[Value.int .i64 3, Value.int .i64 0, Value.string p] 23)
  refine (h10 _ (Ht.out.below hP10)).mono ?_
  rintro e w10 ⟨rfl, hb10⟩
  have hB10 : Below w.heap.size w w10 := hP10.trans (hb10.mono hP10.size)
  have q10_0_0 : w10.cell? ⟨w.heap.size, 0, none⟩ = some (.int .i64 3) := keepB hb10 (by go_simp)
  have q10_0_1 : w10.cell? ⟨w.heap.size, 1, none⟩ = some (.int .i64 0) := keepB hb10 (by go_simp)
  have q10_0_2 : w10.cell? ⟨w.heap.size, 2, none⟩ = some (.string s) := keepB hb10 (by go_simp)
  have z10_0 : w.heap.size < w10.heap.size := World.block_lt_of_cell? _ _ q10_0_0
  have q10_1_0 : w10.cell? ⟨w.heap.size + 1, 0, none⟩ = some (.int .i64 t') := keepB hb10 (by go_simp)
  have q10_1_1 : w10.cell? ⟨w.heap.size + 1, 1, none⟩ = some (.int .i64 n') := keepB hb10 (by go_simp)
  have q10_1_2 : w10.cell? ⟨w.heap.size + 1, 2, none⟩ = some (.string s') := keepB hb10 (by go_simp)
  have z10_1 : w.heap.size + 1 < w10.heap.size := World.block_lt_of_cell? _ _ q10_1_0
  have q10_2_0 : w10.cell? ⟨w1.heap.size, 0, none⟩ = some (.int .i64 3) := keepB hb10 (by go_simp)
  have q10_2_1 : w10.cell? ⟨w1.heap.size, 1, none⟩ = some (.int .i64 0) := keepB hb10 (by go_simp)
  have q10_2_2 : w10.cell? ⟨w1.heap.size, 2, none⟩ = some (.string ⟨#[98, 97]⟩) := keepB hb10 (by go_simp)
  have z10_2 : w1.heap.size < w10.heap.size := World.block_lt_of_cell? _ _ q10_2_0
  have q10_3_0 : w10.cell? ⟨w2.heap.size, 0, none⟩ = some (.int .i64 3) := keepB hb10 (by go_simp)
  have q10_3_1 : w10.cell? ⟨w2.heap.size, 1, none⟩ = some (.int .i64 0) := keepB hb10 (by go_simp)
  have q10_3_2 : w10.cell? ⟨w2.heap.size, 2, none⟩ = some (.string x) := keepB hb10 (by go_simp)
  have z10_3 : w2.heap.size < w10.heap.size := World.block_lt_of_cell? _ _ q10_3_0
  have q10_4_0 : w10.cell? ⟨w3.heap.size, 0, none⟩ = some (.int .i64 3) := keepB hb10 (by go_simp)
  have q10_4_1 : w10.cell? ⟨w3.heap.size, 1, none⟩ = some (.int .i64 0) := keepB hb10 (by go_simp)
  have q10_4_2 : w10.cell? ⟨w3.heap.size, 2, none⟩ = some (.string s) := keepB hb10 (by go_simp)
  have z10_4 : w3.heap.size < w10.heap.size := World.block_lt_of_cell? _ _ q10_4_0
  have q10_5_0 : w10.cell? ⟨w6.heap.size, 0, none⟩ = some (.int .i64 3) := keepB hb10 (by go_simp)
  have q10_5_1 : w10.cell? ⟨w6.heap.size, 1, none⟩ = some (.int .i64 0) := keepB hb10 (by go_simp)
  have q10_5_2 : w10.cell? ⟨w6.heap.size, 2, none⟩ = some (.string c) := keepB hb10 (by go_simp)
  have z10_5 : w6.heap.size < w10.heap.size := World.block_lt_of_cell? _ _ q10_5_0
  have q10_6_0 : w10.cell? ⟨w9.heap.size, 0, none⟩ = some (.int .i64 3) := keepB hb10 (by go_simp)
  have q10_6_1 : w10.cell? ⟨w9.heap.size, 1, none⟩ = some (.int .i64 0) := keepB hb10 (by go_simp)
  have q10_6_2 : w10.cell? ⟨w9.heap.size, 2, none⟩ = some (.string p) := keepB hb10 (by go_simp)
  have z10_6 : w9.heap.size < w10.heap.size := World.block_lt_of_cell? _ _ q10_6_0
  clear q9_0_0 q9_0_1 q9_0_2 z9_0 q9_1_0 q9_1_1 q9_1_2 z9_1 q9_2_0 q9_2_1 q9_2_2 z9_2 q9_3_0 q9_3_1 q9_3_2 z9_3 q9_4_0 q9_4_1 q9_4_2 z9_4 q9_5_0 q9_5_1 q9_5_2 z9_5 hb10
  clear hP10
  go_wp2_with fail
  have hP11 : Below w.heap.size w _ := (hB10).alloc hB10.size (.cells #[Value.int .i64 3, Value.int .i64 0, Value.string q] 23)
  refine (h11 _ (Ht.out.below hP11)).mono ?_
  rintro e w11 ⟨rfl, hb11⟩
  have hB11 : Below w.heap.size w w11 := hP11.trans (hb11.mono hP11.size)
  have q11_0_0 : w11.cell? ⟨w.heap.size, 0, none⟩ = some (.int .i64 3) := keepB hb11 (by go_simp)
  have q11_0_1 : w11.cell? ⟨w.heap.size, 1, none⟩ = some (.int .i64 0) := keepB hb11 (by go_simp)
  have q11_0_2 : w11.cell? ⟨w.heap.size, 2, none⟩ = some (.string s) := keepB hb11 (by go_simp)
  have z11_0 : w.heap.size < w11.heap.size := World.block_lt_of_cell? _ _ q11_0_0
  have q11_1_0 : w11.cell? ⟨w.heap.size + 1, 0, none⟩ = some (.int .i64 t') := keepB hb11 (by go_simp)
  have q11_1_1 : w11.cell? ⟨w.heap.size + 1, 1, none⟩ = some (.int .i64 n') := keepB hb11 (by go_simp)
  have q11_1_2 : w11.cell? ⟨w.heap.size + 1, 2, none⟩ = some (.string s') := keepB hb11 (by go_simp)
  have z11_1 : w.heap.size + 1 < w11.heap.size := World.block_lt_of_cell? _ _ q11_1_0
  have q11_2_0 : w11.cell? ⟨w1.heap.size, 0, none⟩ = some (.int .i64 3) := keepB hb11 (by go_simp)
  have q11_2_1 : w11.cell? ⟨w1.heap.size, 1, none⟩ = some (.int .i64 0) := keepB hb11 (by go_simp)
  have q11_2_2 : w11.cell? ⟨w1.heap.size, 2, none⟩ = some (.string ⟨#[98, 97]⟩) := keepB hb11 (by go_simp)
  have z11_2 : w1.heap.size < w11.heap.size := World.block_lt_of_cell? _ _ q11_2_0
  have q11_3_0 : w11.cell? ⟨w2.heap.size, 0, none⟩ = some (.int .i64 3) := keepB hb11 (by go_simp)
  have q11_3_1 : w11.cell? ⟨w2.heap.size, 1, none⟩ = some (.int .i64 0) := keepB hb11 (by go_simp)
  have q11_3_2 : w11.cell? ⟨w2.heap.size, 2, none⟩ = some (.string x) := keepB hb11 (by go_simp)
  have z11_3 : w2.heap.size < w11.heap.size := World.block_lt_of_cell? _ _ q11_3_0
  have q11_4_0 : w11.cell? ⟨w3.heap.size, 0, none⟩ = some (.int .i64 3) := keepB hb11 (by go_simp)
  have q11_4_1 : w11.cell? ⟨w3.heap.size, 1, none⟩ = some (.int .i64 0) := keepB hb11 (by go_simp)
  have q11_4_2 : w11.cell? ⟨w3.heap.size, 2, none⟩ = some (.string s) := keepB hb11 (by go_simp)
  have z11_4 : w3.heap.size < w11.heap.size := World.block_lt_of_cell? _ _ q11_4_0
  have q11_5_0 : w11.cell? ⟨w6.heap.size, 0, none⟩ = some (.int .i64 3) := keepB hb11 (by go_simp)
  have q11_5_1 : w11.cell? ⟨w6.heap.size, 1, none⟩ = some (.int .i64 0) := keepB hb11 (by go_simp)
  have q11_5_2 : w11.cell? ⟨w6.heap.size, 2, none⟩ = some (.string c) := keepB hb11 (by go_simp)
  have z11_5 : w6.heap.size < w11.heap.size := World.block_lt_of_cell? _ _ q11_5_0
  have q11_6_0 : w11.cell? ⟨w9.heap.size, 0, none⟩ = some (.int .i64 3) := keepB hb11 (by go_simp)
  have q11_6_1 : w11.cell? ⟨w9.heap.size, 1, none⟩ = some (.int .i64 0) := keepB hb11 (by go_simp)
  have q11_6_2 : w11.cell? ⟨w9.heap.size, 2, none⟩ = some (.string p) := keepB hb11 (by go_simp)
  have z11_6 : w9.heap.size < w11.heap.size := World.block_lt_of_cell? _ _ q11_6_0
  have q11_7_0 : w11.cell? ⟨w10.heap.size, 0, none⟩ = some (.int .i64 3) := keepB hb11 (by go_simp)
  have q11_7_1 : w11.cell? ⟨w10.heap.size, 1, none⟩ = some (.int .i64 0) := keepB hb11 (by go_simp)
  have q11_7_2 : w11.cell? ⟨w10.heap.size, 2, none⟩ = some (.string q) := keepB hb11 (by go_simp)
  have z11_7 : w10.heap.size < w11.heap.size := World.block_lt_of_cell? _ _ q11_7_0
  clear q10_0_0 q10_0_1 q10_0_2 z10_0 q10_1_0 q10_1_1 q10_1_2 z10_1 q10_2_0 q10_2_1 q10_2_2 z10_2 q10_3_0 q10_3_1 q10_3_2 z10_3 q10_4_0 q10_4_1 q10_4_2 z10_4 q10_5_0 q10_5_1 q10_5_2 z10_5 q10_6_0 q10_6_1 q10_6_2 z10_6 hb11
  clear hP11
  go_wp2
  go_ret
  exact ⟨rfl, hB11.alloc hB11.size _⟩

end Go.Proofs.YtiobdkibbhpojaaDoor
