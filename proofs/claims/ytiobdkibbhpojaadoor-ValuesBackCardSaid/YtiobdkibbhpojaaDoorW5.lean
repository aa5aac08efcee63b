/- values.Joined returns what cutS says; nothing that was there is changed. The tables of unicode slash utf8 read as laid. -/
import Derived.Test.YtiobdkibbhpojaaDoorW4
import Derived.Test.YtiobdkibbhpojaaDoorShelf
import Derived.Lib.Bits
set_option linter.unusedVariables false
set_option linter.unusedSimpArgs false
namespace Go.Proofs.YtiobdkibbhpojaaDoor
open Go.RowKit Go.Sort

/-- where a text is cut, from a place down. -/
def cutAt (l : List UInt8) : Nat → Nat
  | 0 => 0
  | n + 1 => if Utf.startB (l.getD (n + 1) 0) = true then n + 1 else cutAt l n
def cutS (l : List UInt8) : List UInt8 := if l.length ≤ 100 then l else l.take (cutAt l 100)

theorem start_of (x : UInt8) : Lib.runeStart (x.toNat : Int) = Utf.startB x := by
  unfold Lib.runeStart Utf.startB
  rw [Bool.eq_iff_iff]
  simp only [bne_iff_ne, ne_eq]
  omega
theorem get_list (s : ByteArray) (k : Nat) (h : k < s.size) : s.data.toList.getD k 0 = s[k] := by
  rw [Lib.getD_get!' s k]
  exact Utf8W.get!_of_lt s k h
theorem row2 {w : World} {b : Nat} {u v : Va} (h0 : w.cell? ⟨b, 0, none⟩ = some (.int .i64 u.t)) (h1 : w.cell? ⟨b, 1, none⟩ = some (.int .i64 u.n)) (h2 : w.cell? ⟨b, 2, none⟩ = some (.string u.s))
    (h3 : w.cell? ⟨b, 3, none⟩ = some (.int .i64 v.t)) (h4 : w.cell? ⟨b, 4, none⟩ = some (.int .i64 v.n)) (h5 : w.cell? ⟨b, 5, none⟩ = some (.string v.s)) : RowVa w b 0 [u, v] := by
  intro i x hi
  match i, hi with
  | 0, hi => simp at hi; subst hi; exact ⟨h0, h1, h2⟩
  | 1, hi => simp at hi; subst hi; exact ⟨h3, h4, h5⟩
  | i + 2, hi => simp at hi

set_option maxHeartbeats 1000000 in
theorem joined_bad (hv : Said.ValidString) (t n t' n' : Int) (s s' : ByteArray) (E : Int) (hE : textE [⟨t, n, s⟩, ⟨t', n', s'⟩] = E) (h0 : E ≠ 0) (w : World) (ht : Tabs w) :
    Calls Tryd.prog 15 #[.agg #[.int .i64 t, .int .i64 n, .string s], .agg #[.int .i64 t', .int .i64 n', .string s']] w fun e w' => e = .returned (.tuple #[zeroV, .int .i64 E]) ∧ Below w.heap.size w w' := by
  have ht1 := text_any hv [⟨t, n, s⟩, ⟨t', n', s'⟩]
  rw [hE] at ht1
  have HT := Lib.hid ht1
  have Ht := Lib.hid ht
  have hE1 : (E != 0) = true := by simpa using h0
  clear ht1 ht hE h0
  go_enter Tryd.func15, Tryd.ntmps15
  go_wp2_with fail
  have hBa := (((((Below.refl w.heap.size w).alloc (Nat.le_refl _) (.cells #[Value.int .i64 t, Value.int .i64 n, Value.string s] 23)).alloc (by simp) (.cells #[Value.int .i64 t', Value.int .i64 n', Value.string s'] 23)).alloc (by simp; omega) (.cells #[Value.int .i64 0, Value.int .i64 0, Value.string ⟨#[]⟩] 23)).alloc (by simp; omega) (.cells #[Value.int .i64 t, Value.int .i64 n, Value.string s, Value.int .i64 t', Value.int .i64 n', Value.string s'] 23))
  have h3 : w.heap.size + 1 + 1 + 1 = w.heap.size + 3 := rfl
  refine (HT.out _ 0 2 _ (Ht.out.below hBa) (row2 (by go_simp) (by go_simp) (by go_simp) (by go_simp) (by go_simp) (by go_simp)) (by simp)).mono ?_
  rintro e w1 ⟨rfl, hb1⟩
  obtain ⟨hc1, hf1⟩ := bcell hb1
  have hz1 : w.heap.size + 3 < w1.heap.size := (by have := hb1.size; simp at this; omega)
  have hy1 : w.heap.size + 1 < w1.heap.size := (by omega)
  have hx1 : w.heap.size < w1.heap.size := (by omega)
  have hw1 : w.heap.size + 1 + 1 < w1.heap.size := (by omega)
  have hB1 := hBa.trans (hb1.mono hBa.size)
  go_wp2_with fail
  have q0 : w1.cell? ⟨w.heap.size + 1 + 1, 0, none⟩ = some (.int .i64 0) := by go_simp
  have q1 : w1.cell? ⟨w.heap.size + 1 + 1, 1, none⟩ = some (.int .i64 0) := by go_simp
  have q2 : w1.cell? ⟨w.heap.size + 1 + 1, 2, none⟩ = some (.string ⟨#[]⟩) := by go_simp
  refine bodyPost_ret (v := .tuple #[zeroV, .int .i64 E]) (by simp [results, Tryd.results15, go_sem, q0, q1, q2, zeroV]) rfl ⟨rfl, ?_⟩
  exact ((hB1.setCell (by simp; omega) _).setCell (by simp; omega) _).setCell (by simp; omega) _

set_option maxHeartbeats 2000000 in
theorem joined_ok (hv : Said.ValidString) (t n t' n' : Int) (s s' : ByteArray) (hE : textE [⟨t, n, s⟩, ⟨t', n', s'⟩] = 0) (h1 : s.size ≤ 100) (h2 : s'.size ≤ 100) (hst : 100 < (s ++ s').size → Utf.startB ((s ++ s').data.toList.getD 0 0) = true) (w : World) (ht : Tabs w) :
    Calls Tryd.prog 15 #[.agg #[.int .i64 t, .int .i64 n, .string s], .agg #[.int .i64 t', .int .i64 n', .string s']] w fun e w' =>
      e = .returned (.tuple #[.agg #[.int .i64 3, .int .i64 0, .string (strL (cutS (s ++ s').data.toList))], .int .i64 0]) ∧ Below w.heap.size w w' := by
  have ht1 := text_any hv [⟨t, n, s⟩, ⟨t', n', s'⟩]
  rw [hE] at ht1
  have HT := Lib.hid ht1
  have Ht := Lib.hid ht
  have HS := Lib.hid hst
  have hsz : (s ++ s').size = s.size + s'.size := ByteArray.size_append
  have HZ := Lib.hid hsz
  clear ht1 ht hE hst hsz
  by_cases hL : (100 : Int) < (s.size : Int) + (s'.size : Int)
  · go_enter Tryd.func15, Tryd.ntmps15
    go_wp2_with fail
    have hBa := (((((Below.refl w.heap.size w).alloc (Nat.le_refl _) (.cells #[Value.int .i64 t, Value.int .i64 n, Value.string s] 23)).alloc (by simp) (.cells #[Value.int .i64 t', Value.int .i64 n', Value.string s'] 23)).alloc (by simp; omega) (.cells #[Value.int .i64 0, Value.int .i64 0, Value.string ⟨#[]⟩] 23)).alloc (by simp; omega) (.cells #[Value.int .i64 t, Value.int .i64 n, Value.string s, Value.int .i64 t', Value.int .i64 n', Value.string s'] 23))
    have h3 : w.heap.size + 1 + 1 + 1 = w.heap.size + 3 := rfl
    refine (HT.out _ 0 2 _ (Ht.out.below hBa) (row2 (by go_simp) (by go_simp) (by go_simp) (by go_simp) (by go_simp) (by go_simp)) (by simp)).mono ?_
    rintro e w1 ⟨rfl, hb1⟩
    obtain ⟨hc1, hf1⟩ := bcell hb1
    have hz1 : w.heap.size + 3 < w1.heap.size := (by have := hb1.size; simp at this; omega)
    have hy1 : w.heap.size + 1 < w1.heap.size := (by omega)
    have hx1 : w.heap.size < w1.heap.size := (by omega)
    have hw1 : w.heap.size + 1 + 1 < w1.heap.size := (by omega)
    have hB1 := hBa.trans (hb1.mono hBa.size)
    go_wp2_with fail
    go_loop [8] (fun i => ∃ k : Nat, k ≤ 100 ∧ i = .int .i64 k ∧ cutAt (s ++ s').data.toList 100 = cutAt (s ++ s').data.toList k) (fun i => (intOf i).toNat)
    case atStart => exact ⟨100, by omega, rfl, rfl⟩
    case round =>
      obtain ⟨k, hk, rfl, hq⟩ := hrel
      have HQ := Lib.hid hq
      clear hq
      have hkl : k < s.size + s'.size := by omega
      go_wp2_with fail
      have hx : (s ++ s').data.toList.getD k 0 = (s ++ s')[k]'(by rw [HZ.out]; exact hkl) := get_list _ _ _
      generalize (s ++ s')[k]'(by rw [HZ.out]; exact hkl) = x at hx ⊢
      have HX := Lib.hid hx
      clear hx
      have hlt := x.toNat_lt
      have hcon := (Tryd.utf8_RuneStart (x.toNat : Int) w1 (by omega) (by omega)).mono (R' := fun e w' => e = .returned (.bool (Lib.runeStart (x.toNat : Int))) ∧ w1 = w') (fun e w' h => ⟨h.1, h.2.symm⟩)
      rw [start_of] at hcon
      by_cases hb : Utf.startB x = true
      · rw [hb] at hcon
        refine hcon.mono ?_
        rintro e w2 ⟨rfl, rfl⟩
        have q0 : w1.cell? ⟨w.heap.size + 1 + 1, 0, none⟩ = some (.int .i64 0) := by go_simp
        have q1 : w1.cell? ⟨w.heap.size + 1 + 1, 1, none⟩ = some (.int .i64 0) := by go_simp
        have q2 : w1.cell? ⟨w.heap.size + 1 + 1, 2, none⟩ = some (.string ⟨#[]⟩) := by go_simp
        go_wp2_with fail
        have hfin : (s ++ s').extract 0 k = strL (cutS (s ++ s').data.toList) := by
          have hZ := HZ.out
          have hc : cutAt (s ++ s').data.toList k = k := by
            cases k with
            | zero => rfl
            | succ k => unfold cutAt; rw [HX.out, if_pos hb]
          refine strL_eq ?_
          rw [Lib.extract_data, cutS, if_neg (by rw [Utf.sizeL, hZ]; omega), HQ.out, hc, List.drop_zero]
          try rw [Nat.sub_zero]
        refine bodyPost_ret (v := .tuple #[.agg #[.int .i64 3, .int .i64 0, .string ((s ++ s').extract 0 k)], .int .i64 0]) (by simp [results, Tryd.results15, go_sem, q0, q1, q2]) rfl ⟨by rw [hfin], ?_⟩
        exact ((hB1.setCell (by simp; omega) _).setCell (by simp; omega) _).setCell (by simp; omega) _
      · have hb' : Utf.startB x = false := by simpa using hb
        rw [hb'] at hcon
        refine hcon.mono ?_
        rintro e w2 ⟨rfl, rfl⟩
        have hk0 : 0 < k := by
          rcases Nat.eq_zero_or_pos k with rfl | h
          · have := HS.out (by rw [HZ.out]; omega)
            rw [HX.out, hb'] at this
            cases this
          · exact h
        go_wp2_with fail
        have hc : cutAt (s ++ s').data.toList k = cutAt (s ++ s').data.toList (k - 1) := by
          obtain ⟨j, rfl⟩ : ∃ j, k = j + 1 := ⟨k - 1, by omega⟩
          show cutAt _ (j + 1) = cutAt _ j
          rw [cutAt, HX.out, if_neg hb]
        go_round
        case rel => exact ⟨k - 1, by omega, by rw [show ((k - 1 : Nat) : Int) = (k : Int) - 1 by omega], by rw [HQ.out, hc]⟩
        case measure => simp [intOf]; omega
  · go_enter Tryd.func15, Tryd.ntmps15
    go_wp2_with fail
    have hBa := (((((Below.refl w.heap.size w).alloc (Nat.le_refl _) (.cells #[Value.int .i64 t, Value.int .i64 n, Value.string s] 23)).alloc (by simp) (.cells #[Value.int .i64 t', Value.int .i64 n', Value.string s'] 23)).alloc (by simp; omega) (.cells #[Value.int .i64 0, Value.int .i64 0, Value.string ⟨#[]⟩] 23)).alloc (by simp; omega) (.cells #[Value.int .i64 t, Value.int .i64 n, Value.string s, Value.int .i64 t', Value.int .i64 n', Value.string s'] 23))
    have h3 : w.heap.size + 1 + 1 + 1 = w.heap.size + 3 := rfl
    refine (HT.out _ 0 2 _ (Ht.out.below hBa) (row2 (by go_simp) (by go_simp) (by go_simp) (by go_simp) (by go_simp) (by go_simp)) (by simp)).mono ?_
    rintro e w1 ⟨rfl, hb1⟩
    obtain ⟨hc1, hf1⟩ := bcell hb1
    have hz1 : w.heap.size + 3 < w1.heap.size := (by have := hb1.size; simp at this; omega)
    have hy1 : w.heap.size + 1 < w1.heap.size := (by omega)
    have hx1 : w.heap.size < w1.heap.size := (by omega)
    have hw1 : w.heap.size + 1 + 1 < w1.heap.size := (by omega)
    have hB1 := hBa.trans (hb1.mono hBa.size)
    go_wp2_with fail
    have hfin : s ++ s' = strL (cutS (s ++ s').data.toList) := by
      have hZ := HZ.out
      refine strL_eq ?_
      rw [cutS, if_pos (by rw [Utf.sizeL, hZ]; omega)]
    have q0 : w1.cell? ⟨w.heap.size + 1 + 1, 0, none⟩ = some (.int .i64 0) := by go_simp
    have q1 : w1.cell? ⟨w.heap.size + 1 + 1, 1, none⟩ = some (.int .i64 0) := by go_simp
    have q2 : w1.cell? ⟨w.heap.size + 1 + 1, 2, none⟩ = some (.string ⟨#[]⟩) := by go_simp
    refine bodyPost_ret (v := .tuple #[.agg #[.int .i64 3, .int .i64 0, .string (s ++ s')], .int .i64 0]) (by simp [results, Tryd.results15, go_sem, q0, q1, q2]) rfl ⟨by rw [← hfin], ?_⟩
    exact ((hB1.setCell (by simp; omega) _).setCell (by simp; omega) _).setCell (by simp; omega) _

end Go.Proofs.YtiobdkibbhpojaaDoor
