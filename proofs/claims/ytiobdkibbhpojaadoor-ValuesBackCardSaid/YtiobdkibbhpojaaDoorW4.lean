/- values.Turned and values.Joined return what the plain functions beside them say; nothing that was there is changed. The tables of unicode slash utf8 read as laid. -/
import Derived.Test.YtiobdkibbhpojaaDoorW3
import Derived.Test.YtiobdkibbhpojaaDoorShelf2
import Derived.Lib.OwnBridge
set_option linter.unusedVariables false
set_option linter.unusedSimpArgs false
namespace Go.Proofs.YtiobdkibbhpojaaDoor
open Go.RowKit Go.Sort

theorem one32 : Go.Proofs.OneCell (Value.int .i32) := fun _ => rfl

/-- slices.Reverse of runes, in the words that its caller wants. -/
theorem rev_any (zs : List Int) (B blk len cap : Nat) (hlen : zs.length = len) (w0 w : World) (hB : Below B w0 w) (hBb : B ≤ blk) (hsz : zs.length ≤ 9223372036854775807)
    (hc : ∀ j, j < zs.length → w.cell? ⟨blk, j, none⟩ = some (.int .i32 (zs.getD j 0))) (hf : ∀ j, j < zs.length → w.frozen? ⟨blk, j, none⟩ = false) :
    Calls Tryd.prog 42 #[.slice (some ⟨blk, 0, none⟩) len cap] w fun e w' => e = .returned (.tuple #[]) ∧ Below B w0 w' ∧ w'.heap.size = w.heap.size ∧ (∀ b o, b ≠ blk → w'.cell? ⟨b, o, none⟩ = w.cell? ⟨b, o, none⟩) ∧
      (∀ b o, w'.frozen? ⟨b, o, none⟩ = w.frozen? ⟨b, o, none⟩) ∧ ∀ j, j < zs.length → w'.cell? ⟨blk, j, none⟩ = some (.int .i32 (zs.reverse.getD j 0)) := by
  subst hlen
  have hH : Holds (Value.int .i32) w blk 0 zs.toArray := by
    intro j hj
    simp only [List.size_toArray] at hj
    refine ⟨?_, ?_⟩
    · rw [Nat.zero_add, hc j hj]
      simp [List.getD, hj]
    · rw [Nat.zero_add, hf j hj]
  refine (Tryd.slices_Reverse_i32 one32 blk 0 cap zs w hH hsz).mono ?_
  rintro e w' ⟨rfl, n, rfl⟩
  have hHa : Holds (Value.int .i32) (Sort.ahead w n) blk 0 zs.toArray := hH
  refine ⟨rfl, Lib.below_putRow hB hBb, by simp [ahead], fun b o hb => ?_, fun b o => ?_, fun j hj => ?_⟩
  · rw [cell?_putRow_other _ _ _ _ _ _ (Or.inl hb)]; rfl
  · rw [frozen?_putRow]; rfl
  · have := (holds_putRow (Value.int .i32) (Sort.ahead w n) blk 0 zs.toArray zs.reverse.toArray hHa (by simp)) j (by simpa using hj)
    rw [Nat.zero_add] at this
    rw [this.1]
    simp [List.getD, hj]

/-- Turned of what is no text. -/
def zeroV : Value := .agg #[.int .i64 0, .int .i64 0, .string ⟨#[]⟩]

set_option maxHeartbeats 1000000 in
theorem turned_bad (hv : Said.ValidString) (t n : Int) (s : ByteArray) (E : Int) (hE : textE [⟨t, n, s⟩] = E) (h0 : E ≠ 0) (w : World) (ht : Tabs w) :
    Calls Tryd.prog 13 #[.agg #[.int .i64 t, .int .i64 n, .string s]] w fun e w' => e = .returned (.tuple #[zeroV, .int .i64 E]) ∧ Below w.heap.size w w' := by
  have ht1 := text_any hv [⟨t, n, s⟩]
  rw [hE] at ht1
  have HT := Lib.hid ht1
  have Ht := Lib.hid ht
  have hE1 : (E != 0) = true := by simpa using h0
  clear ht1 ht hE h0
  go_enter Tryd.func13, Tryd.ntmps13
  go_wp2_with (first
    | (go_at_call 41; refine (HT.out _ _ 1 _ (Ht.out.below ((((Below.refl _ _).alloc (Nat.le_refl _) _).alloc (by simp) _).alloc (by simp; omega) _)) (by intro i v hi; match i, hi with | 0, hi => simp at hi; subst hi; exact ⟨by go_simp, by go_simp, by go_simp⟩) (by simp)).mono ?_; rintro e w1 ⟨rfl, hb1⟩; obtain ⟨hc1, hf1⟩ := bcell hb1; have hz1 : w.heap.size + 2 < w1.heap.size := (by have := hb1.size; simp at this; omega); have hy1 : w.heap.size + 1 < w1.heap.size := (by omega); have hx1 : w.heap.size < w1.heap.size := (by omega))
    | fail)
  have q0 : w1.cell? ⟨w.heap.size + 1, 0, none⟩ = some (.int .i64 0) := by go_simp
  have q1 : w1.cell? ⟨w.heap.size + 1, 1, none⟩ = some (.int .i64 0) := by go_simp
  have q2 : w1.cell? ⟨w.heap.size + 1, 2, none⟩ = some (.string ⟨#[]⟩) := by go_simp
  refine bodyPost_ret (v := .tuple #[zeroV, .int .i64 E]) (by simp [results, Tryd.results13, go_sem, q0, q1, q2, zeroV]) rfl ⟨rfl, ?_⟩
  have hB1 := ((((Below.refl _ _).alloc (Nat.le_refl _) _).alloc (by simp) _).alloc (by simp; omega) _).trans (hb1.mono (show w.heap.size ≤ _ by simp; omega))
  exact ((hB1.setCell (by simp) _).setCell (by simp) _).setCell (by simp) _

open Utf in
/-- The cells of the new row of runes: the runes, then noughts. -/
def runeRow (cs : List Nat) (c : Nat) : Array Value := (cs.map fun (c : Nat) => Value.int .i32 (c : Int)).toArray ++ Array.replicate (c - cs.length) (.int .i32 0)

theorem runeRow_at (cs : List Nat) (c j : Nat) (hj : j < cs.length) : (runeRow cs c)[j]? = some (.int .i32 ((cs.map fun (c : Nat) => (c : Int)).getD j 0)) := by
  unfold runeRow
  rw [Array.getElem?_append_left (by simpa using hj)]
  simp [List.getD, hj]

def strL (l : List UInt8) : ByteArray := ⟨l.toArray⟩
theorem strL_list (l : List UInt8) : (strL l).data.toList = l := by simp [strL]
theorem strL_of (s : ByteArray) : strL s.data.toList = s := by simp [strL]
theorem strL_eq {s : ByteArray} {l : List UInt8} (h : s.data.toList = l) : s = strL l := by rw [← h, strL_of]

set_option maxHeartbeats 2000000 in
theorem turned_ok (hv : Said.ValidString) (s : ByteArray) (cs : List Nat) (hg : ∀ c ∈ cs, Utf.good c) (hs : s.data.toList = Utf.encs cs) (hlen : s.size ≤ 100) (hE : textE [⟨3, 0, s⟩] = 0) (w : World) (ht : Tabs w) :
    Calls Tryd.prog 13 #[.agg #[.int .i64 3, .int .i64 0, .string s]] w fun e w' => e = .returned (.tuple #[.agg #[.int .i64 3, .int .i64 0, .string (strL (Utf.encs cs.reverse))], .int .i64 0]) ∧ Below w.heap.size w w' := by
  have ht1 := text_any hv [⟨3, 0, s⟩]
  rw [hE] at ht1
  have HT := Lib.hid ht1
  have Ht := Lib.hid ht
  have hcl : cs.length ≤ 100 := by have := Utf.encs_length cs; rw [← hs] at this; exact Nat.le_trans this hlen
  have hsz : (Conv.runesFrom s s.size 0 #[]).size = cs.length := by rw [Utf.runes_encs s cs hg hs]; simp
  have hconv : ∀ w : World, (convert 9 77 (.string s)).run Tryd.prog w = .ok (.slice (some ⟨w.heap.size, 0, none⟩) cs.length (grownCap w cs.length 0 21)) (w.drew.alloc (.cells (runeRow cs (grownCap w cs.length 0 21)) 21)) := by
    intro w
    rw [run_runes_of_string w 9 77 21 s Tryd.underlying9 Tryd.underlying77 Tryd.underlying21 (by rw [hsz]; omega), hsz, Utf.runes_encs s cs hg hs]
    rfl
  have hb := runeRow_at cs
  have hback : ∀ (w : World) (blk cap : Nat), (∀ j, j < cs.length → w.cell? ⟨blk, j, none⟩ = some (.int .i32 ((cs.map fun (c : Nat) => (c : Int)).reverse.getD j 0))) →
      (convert 77 9 (.slice (some ⟨blk, 0, none⟩) cs.length cap)).run Tryd.prog w = .ok (.string (strL (Utf.encs cs.reverse))) w := by
    intro w blk cap hc
    have := run_convert_runes (P := Tryd.prog) w 77 9 21 ⟨blk, 0, none⟩ cs.length cap (cs.map fun (c : Nat) => (c : Int)).reverse (by simp) Tryd.underlying77 Tryd.underlying21 Tryd.underlying9 (fun j hj => by
      have e : (⟨blk, 0, none⟩ : Addr).add j = ⟨blk, j, none⟩ := by unfold Addr.add; split <;> simp_all
      rw [e]
      exact hc j (by simpa using hj))
    rw [this, List.take_of_length_le (by simp), ← List.map_reverse, strL_eq (Utf.runesBytes_encs cs.reverse (fun c hc => hg c (by simpa using hc)))]
  have HB := Lib.hid hb
  have HK := Lib.hid hback
  have HC := Lib.hid hconv
  have hlen0 : (cs.map fun (c : Nat) => (c : Int)).length = cs.length := by simp
  have HL := Lib.hid hlen0
  have HCL := Lib.hid hcl
  clear ht1 ht hE hb hback hs hsz hg hcl hlen hlen0 hconv
  go_enter Tryd.func13, Tryd.ntmps13
  have hconv := HC.out
  go_wp2_with (first
    | (go_at_call 41; refine (HT.out _ _ 1 _ (Ht.out.below ((((Below.refl _ _).alloc (Nat.le_refl _) _).alloc (by simp) _).alloc (by simp; omega) _)) (by intro i v hi; match i, hi with | 0, hi => simp at hi; subst hi; exact ⟨by go_simp, by go_simp, by go_simp⟩) (by simp)).mono ?_; rintro e w1 ⟨rfl, hb1⟩; obtain ⟨hc1, hf1⟩ := bcell hb1; have hz1 : w.heap.size + 2 < w1.heap.size := (by have := hb1.size; simp at this; omega); have hy1 : w.heap.size + 1 < w1.heap.size := (by omega); have hx1 : w.heap.size < w1.heap.size := (by omega))
    | fail)
  have hB1 := ((((Below.refl _ _).alloc (Nat.le_refl _) _).alloc (by simp) _).alloc (by simp; omega) _).trans (hb1.mono (show w.heap.size ≤ _ by simp; omega))
  refine (rev_any (cs.map fun (c : Nat) => (c : Int)) w.heap.size w1.heap.size _ _ HL.out w _ ((hB1.alloc hB1.size _).drew) hB1.size (by rw [HL.out]; have := HCL.out; omega) (fun j hj => ?_) (fun j hj => ?_)).mono ?_
  · rw [HL.out] at hj
    have := HB.out (grownCap w1 cs.length 0 21) j hj
    rw [World.cell?_drew, World.cell?_alloc_new]
    exact this
  · rw [World.frozen?_drew, World.frozen?_alloc_new]
  rintro e w3 ⟨rfl, hB3, hz3, hc3, hf3, hr3⟩
  rw [HL.out] at hr3
  have hbk := HK.out w3 w1.heap.size (grownCap w1 cs.length 0 21) hr3
  have q0 : w3.cell? ⟨w.heap.size + 1, 0, none⟩ = some (.int .i64 0) := by
    rw [hc3 _ _ (by omega)]
    go_simp
  have q1 : w3.cell? ⟨w.heap.size + 1, 1, none⟩ = some (.int .i64 0) := by
    rw [hc3 _ _ (by omega)]
    go_simp
  have q2 : w3.cell? ⟨w.heap.size + 1, 2, none⟩ = some (.string ⟨#[]⟩) := by
    rw [hc3 _ _ (by omega)]
    go_simp
  have f0 : ∀ o, w3.frozen? ⟨w.heap.size + 1, o, none⟩ = false := by
    intro o
    rw [hf3]
    go_simp
  clear hr3 hc3 hf3 hc1 hf1 hb1
  go_wp2_with fail
  refine bodyPost_ret (v := .tuple #[.agg #[.int .i64 3, .int .i64 0, .string (strL (Utf.encs cs.reverse))], .int .i64 0]) (by simp [results, Tryd.results13, go_sem, q0, q1, q2]) rfl ⟨rfl, ?_⟩
  exact ((hB3.setCell (by simp) _).setCell (by simp) _).setCell (by simp) _
end Go.Proofs.YtiobdkibbhpojaaDoor
