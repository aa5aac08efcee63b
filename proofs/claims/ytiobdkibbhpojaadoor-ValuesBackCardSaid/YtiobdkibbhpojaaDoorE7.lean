/- slices.Backward over a row of api.Bind: what its iterator hands to the loop's body, as a contract of the fenced kit. -/
import Derived.RangeFuncBox
import Derived.RangeFuncLeaves
import Derived.Shelf.Abstract
import Derived.WalkKit
import Derived.OwnWalkIn
import Derived.TacticsInMore
import Derived.LoopNIn
import Derived.LoopIn
import Derived.Test.YtiobdkibbhpojaaDoorE6
set_option linter.unusedVariables false
set_option linter.unusedSimpArgs false
namespace Go.Proofs.YtiobdkibbhpojaaDoor
open Go.RowKit Go.Shelf

attribute [local go_sem] Oper.semAt_some

/-- An api.Bind: its name, its value's three parts. -/
structure Bd where
  nm : ByteArray
  t : Int
  n : Int
  s : ByteArray
def Bd.zero : Bd := ⟨ByteArray.empty, 0, 0, ByteArray.empty⟩
def Bd.val (d : Bd) : Value := .agg #[.string d.nm, .int .i64 d.t, .int .i64 d.n, .string d.s]
def BdAt (w : World) (d : Bd) (b o : Nat) : Prop :=
  w.cell? ⟨b, o, none⟩ = some (.string d.nm) ∧ w.cell? ⟨b, o + 1, none⟩ = some (.int .i64 d.t) ∧ w.cell? ⟨b, o + 2, none⟩ = some (.int .i64 d.n) ∧ w.cell? ⟨b, o + 3, none⟩ = some (.string d.s)
def EnvAt (w : World) (B : Nat) (l : List Bd) (a : Option Addr) : Prop :=
  l = [] ∨ ∃ b o, a = some ⟨b, o, none⟩ ∧ b < B ∧ ∀ i d, l[i]? = some d → BdAt w d b (o + i * 4)
theorem EnvAt.below {B : Nat} {w w' : World} (hb : Below B w w') {l : List Bd} {a : Option Addr} : EnvAt w B l a → EnvAt w' B l a
  | .inl h => .inl h
  | .inr ⟨b, o, e, hl, h⟩ => .inr ⟨b, o, e, hl, fun i s hi => ⟨keepU hb hl (h i s hi).1, keepU hb hl (h i s hi).2.1, keepU hb hl (h i s hi).2.2.1, keepU hb hl (h i s hi).2.2.2⟩⟩

/-- What has come when k rounds are over. -/
def backN (l : List Bd) (k : Nat) : List (Nat × Bd) := (List.range k).map fun j => (l.length - 1 - j, l.getD (l.length - 1 - j) Bd.zero)
theorem backN_succ (l : List Bd) (k : Nat) : backN l (k + 1) = backN l k ++ [(l.length - 1 - k, l.getD (l.length - 1 - k) Bd.zero)] := by simp [backN, List.range_succ]
theorem backN_length (l : List Bd) (k : Nat) : (backN l k).length = k := by simp [backN]

set_option maxRecDepth 100000 in
set_option maxHeartbeats 4000000 in
theorem back1_in (F : Fence) (n : Nat) (h7 : F.fn 101) (hro : F.round = none) (hn : 1 ≤ n) (lb Bs n₀ b off cap : Nat) (l : List Bd) (hreach : l.length ≤ 140737488355328) (hb : b < n₀) (J Jx : List (Nat × Bd) → World → Prop)
    (hY : ∀ pre x W, J pre W → pre.length < l.length → YieldAt F (n - 1) Tryd.prog lb #[.int .i64 (x.1 : Int), x.2.val] W fun e W' =>
      (e = .returned (.bool true) ∧ J (pre ++ [x]) W' ∧ Below n₀ W W') ∨ (e = .returned (.bool false) ∧ Jx (pre ++ [x]) W'))
    (W : World) (hBs : W.cell? ⟨Bs, 0, none⟩ = some (.slice (some ⟨b, off, none⟩) l.length cap)) (hBs' : Bs < n₀) (hc : ∀ i d, l[i]? = some d → BdAt W d b (off + i * 4)) (h0 : J [] W) :
    CallsIn F n Tryd.prog 101 #[.func (.yield lb) #[] #[], .pointer (some ⟨Bs, 0, none⟩)] W fun e W' => (∃ v, e = .returned v) ∧
      ((∃ ys, ys = backN l l.length ∧ J ys W') ∨ (∃ pre, (∃ k, k ≤ l.length ∧ pre = backN l k) ∧ Jx pre W')) := by
  refine callsIn_of_wp Tryd.func101 rfl h7 ?_ hro
  have HC := Lib.hid hc
  have HY := Lib.hid hY
  have HBS := Lib.hid hBs
  clear hc hY
  simp only [Tryd.ntmps101, List.size_toArray, List.length_cons, List.length_nil, Nat.reduceAdd, Nat.reduceSub, Array.replicate_succ, Array.replicate_zero, List.push_toArray, List.append_toArray, List.nil_append, List.cons_append]
  gi_wp2
  gi_loopw [3] (fun i wr => ∃ k : Nat, k ≤ l.length ∧ i = .int .i64 ((l.length : Int) - 1 - k) ∧ J (backN l k) wr ∧ Below n₀ W wr)
    (fun i _ => (intOf i + 1).toNat)
  case atStart => exact ⟨0, Nat.zero_le _, by simp, h0, Below.refl _ _⟩
  case round =>
    obtain ⟨k, hk, rfl, hJs, hnx⟩ := hrel
    by_cases hlt : k < l.length
    · obtain ⟨m, hm⟩ : ∃ m : Nat, l.length - 1 - k = m := ⟨_, rfl⟩
      have hml : m < l.length := by omega
      have hmi : ((l.length : Int) - 1 - k) = (m : Int) := by omega
      rw [hmi]
      obtain ⟨c0, c1, c2, c3⟩ := HC.out m (l.getD m Bd.zero) (by simp [List.getD, hml])
      have hsucc := backN_succ l k
      rw [hm] at hsucc
      generalize hd : l.getD m Bd.zero = d at c0 c1 c2 c3 hsucc
      have q0 := keepU hnx hb c0
      have q1 := keepU hnx hb c1
      have q2 := keepU hnx hb c2
      have q3 := keepU hnx hb c3
      have qB := keepU hnx hBs' HBS.out
      obtain ⟨fn, tmps, assign, body, hy, hR⟩ := HY.out _ (m, d) wr hJs (by rw [backN_length]; exact hlt)
      dsimp only [Bd.val] at hy
      have hmi' : (m : Int) < (l.length : Int) := by omega
      have HS := Lib.hid hsucc
      have HM := Lib.hid hm
      clear hsucc hm hd c0 c1 c2 c3
      gi_wp2
      refine hR.mono ?_
      rintro e W3 (⟨rfl, hJ3, hk3⟩ | ⟨rfl, hJx3⟩)
      · gi_wp2
        go_roundw
        case rel => exact ⟨k + 1, by omega, by first | (congr 1; have := HM.out; omega) | simp, by rw [HS.out]; exact hJ3, hnx.trans hk3⟩
        case measure => simp [intOf]; try omega
      · gi_wp2
        refine bodyPost_ret (results_none rfl _ _ _) rfl ?_
        exact ⟨⟨_, rfl⟩, .inr ⟨_, ⟨k + 1, by omega, HS.out.symm⟩, hJx3⟩⟩
    · obtain rfl : k = l.length := by omega
      have hmi : ((l.length : Int) - 1 - l.length) = -1 := by omega
      rw [hmi]
      gi_wp2
      go_end0
      exact ⟨⟨_, rfl⟩, .inl ⟨_, rfl, hJs⟩⟩

set_option maxRecDepth 100000 in
set_option maxHeartbeats 1000000 in
/-- .. of no bindings: no round. -/
theorem back1_nil_in (F : Fence) (n : Nat) (h7 : F.fn 101) (hro : F.round = none) (lb Bs : Nat) (a : Option Addr) (cap : Nat) (J : List (Nat × Bd) → World → Prop) (W : World) (hBs : W.cell? ⟨Bs, 0, none⟩ = some (.slice a 0 cap)) (h0 : J [] W) :
    CallsIn F n Tryd.prog 101 #[.func (.yield lb) #[] #[], .pointer (some ⟨Bs, 0, none⟩)] W fun e W' => (∃ v, e = .returned v) ∧ J [] W' := by
  refine callsIn_of_wp Tryd.func101 rfl h7 ?_ hro
  simp only [Tryd.ntmps101, List.size_toArray, List.length_cons, List.length_nil, Nat.reduceAdd, Nat.reduceSub, Array.replicate_succ, Array.replicate_zero, List.push_toArray, List.append_toArray, List.nil_append, List.cons_append]
  gi_wp2
  gi_loopw [3] (fun i wr => i = .int .i64 (-1) ∧ J [] wr) (fun _ _ => 0)
  case atStart => exact ⟨rfl, h0⟩
  case round =>
    obtain ⟨rfl, hJs⟩ := hrel
    gi_wp2
    go_end0
    exact ⟨⟨_, rfl⟩, hJs⟩

set_option maxHeartbeats 1000000 in
/-- slices.Backward: the row is boxed, the function value captures the box. -/
theorem backward_in (F : Fence) (n : Nat) (h5 : F.fn 76) (hro : F.round = none) (a : Option Addr) (len cap : Nat) (w : World) :
    CallsIn F n Tryd.prog 76 #[.slice a len cap] w fun e w' => e = .returned (.func (.func 101) #[] #[.pointer (some ⟨w.heap.size, 0, none⟩)]) ∧ w' = w.alloc (.cells #[.slice a len cap] 36) := by
  refine callsIn_of_wp Tryd.func76 rfl h5 ?_ hro
  simp only [Tryd.ntmps76, List.size_toArray, List.length_cons, List.length_nil, Nat.reduceAdd, Nat.reduceSub, Array.replicate_succ, Array.replicate_zero, List.push_toArray, List.append_toArray, List.nil_append, List.cons_append]
  gi_wp2
  go_ret
  exact ⟨rfl, rfl⟩

/-- What slices.Backward hands back stops at every loop body that keeps what lay below n₀. -/
theorem back_stops (F : Fence) (n : Nat) (h7 : F.fn 101) (hro : F.round = none) (hn : 1 ≤ n) (Bs n₀ : Nat) (a : Option Addr) (cap : Nat) (l : List Bd) (hreach : l.length ≤ 140737488355328) (w : World) (hBs : Bs < w.heap.size) (hBs' : Bs < n₀) (hn₀ : n₀ ≤ w.heap.size)
    (hc : w.cell? ⟨Bs, 0, none⟩ = some (.slice a l.length cap)) (hI : EnvAt w n₀ l a) :
    SeqStopsK F n Tryd.prog 101 #[.pointer (some ⟨Bs, 0, none⟩)] (fun x : Nat × Bd => #[Value.int .i64 (x.1 : Int), x.2.val]) (Below n₀) (fun ys => ys = backN l l.length)
      (fun pre => ∃ k, k ≤ l.length ∧ pre = backN l k) l.length w := fun lb J Jx W hW _ _ hY h0 => by
  have hc' := (hW.cell (p := ⟨Bs, 0, none⟩) hBs).trans hc
  rcases hI.below (hW.mono hn₀) with rfl | ⟨b, off, rfl, hb, hcs⟩
  · exact (back1_nil_in F n h7 hro lb Bs a cap J W hc' h0).mono fun e W' ⟨he, hj⟩ => ⟨he, .inl ⟨_, rfl, hj⟩⟩
  · exact back1_in F n h7 hro hn lb Bs n₀ b off cap l hreach hb J Jx hY W hc' hBs' hcs h0
end Go.Proofs.YtiobdkibbhpojaaDoor
