/- The walk of the law ValuesOrder, from what its five calls of Order return. -/
import Derived.Test.YtiobdkibbhpojaaDoorW1
set_option linter.unusedVariables false
set_option linter.unusedSimpArgs false
namespace Go.Proofs.YtiobdkibbhpojaaDoor
open Go.RowKit

/-- a value as Go holds it. -/
abbrev vv (t n : Int) (s : ByteArray) : Value := .agg #[.int .i64 t, .int .i64 n, .string s]

theorem eq_val (t n t' n' : Int) (s s' : ByteArray) (w : World) : (binOp .eql 23 (vv t n s) (vv t' n' s')).run Tryd.prog w = .ok (.bool (t == t' && n == n' && s.toList == s'.toList)) w := by
  unfold vv
  by_cases h1 : t = t'
  · by_cases h2 : n = n'
    · by_cases h3 : s.toList = s'.toList
      · go_simp
      · go_simp
    · go_simp
  · go_simp

def OrdSaid (a b : Value) (x e : Int) : Prop := ∀ w, Tabs w → Calls Tryd.prog 12 #[a, b] w fun r w' => r = .returned (.tuple #[.int .i64 x, .int .i64 e]) ∧ Below w.heap.size w w'

set_option maxRecDepth 100000 in
set_option maxHeartbeats 1000000 in
theorem law_order (t n t' n' t'' n'' x E y F z G u H : Int) (s s' s'' : ByteArray) (w : World) (ht : Tabs w)
   (h12 : OrdSaid (vv 1 1 ⟨#[]⟩) (vv 1 2 ⟨#[]⟩) (-1) 0)
   (hab : OrdSaid (vv t n s) (vv t' n' s') x E) (hba : OrdSaid (vv t' n' s') (vv t n s) y F) (hbc : OrdSaid (vv t' n' s') (vv t'' n'' s'') z G) (hac : OrdSaid (vv t n s) (vv t'' n'' s'') u H)
   (hx : x = -1 ∨ x = 0 ∨ x = 1) (hz : z = -1 ∨ z = 0 ∨ z = 1) (hE : E ≠ 0 ∨ F ≠ 0 → E ≠ 0 ∧ F ≠ 0 ∧ x = 0 ∧ y = 0) (h0 : E = 0 → y = -x ∧ (x = 0 ↔ t = t' ∧ n = n' ∧ s.toList = s'.toList)) (hG : E = 0 → G = 0 → H = 0 ∧ (x ≤ 0 → z ≤ 0 → u = min x z)) :
    Calls Tryd.prog 3 #[vv t n s, vv t' n' s', vv t'' n'' s''] w fun e w' => e = .returned (.bool true) ∧ Below w.heap.size w w' := by
  have hx1 : -1 ≤ x ∧ x ≤ 1 := by omega
  obtain ⟨hxl, hxu⟩ := hx1
  clear hx
  have Ht := Lib.hid ht
  have H0 := Lib.hid h0
  have HG := Lib.hid hG
  have HE := Lib.hid hE
  have HZ := Lib.hid hz
  clear ht h0 hG hE hz
  go_enter Tryd.func3, Tryd.ntmps3
  go_wp2_with fail
  refine (h12 _ (Ht.out.below ?_)).mono ?_
  · exact ((((Below.refl _ _).alloc (Nat.le_refl _) _).alloc (by simp) _).alloc (by simp; omega) _)
  rintro e w1 ⟨rfl, hb1⟩
  obtain ⟨hc1, hf1⟩ := bcell hb1
  have hB1 : Below w.heap.size w w1 := ((((Below.refl _ _).alloc (Nat.le_refl _) _).alloc (by simp) _).alloc (by simp; omega) _).trans (hb1.mono (by simp; omega))
  have hz1 : w.heap.size + 2 < w1.heap.size := (by have := hb1.size; simp at this; omega)
  have hy1 : w.heap.size < w1.heap.size ∧ w.heap.size + 1 < w1.heap.size := ⟨by omega, by omega⟩
  go_wp2_with fail
  refine (hab _ (Ht.out.below hB1)).mono ?_
  rintro e w2 ⟨rfl, hb2⟩
  obtain ⟨hc2, hf2⟩ := bcell hb2
  have hB2 : Below w.heap.size w w2 := hB1.trans (hb2.mono (by omega))
  have hz2 : w.heap.size + 2 < w2.heap.size := (by have := hb2.size; omega)
  have hy2 : w.heap.size < w2.heap.size ∧ w.heap.size + 1 < w2.heap.size := ⟨by omega, by omega⟩
  go_wp2_with fail
  refine (hba _ (Ht.out.below hB2)).mono ?_
  rintro e w3 ⟨rfl, hb3⟩
  obtain ⟨hc3, hf3⟩ := bcell hb3
  have hB3 : Below w.heap.size w w3 := hB2.trans (hb3.mono (by omega))
  have hz3 : w.heap.size + 2 < w3.heap.size := (by have := hb3.size; omega)
  have hy3 : w.heap.size < w3.heap.size ∧ w.heap.size + 1 < w3.heap.size := ⟨by omega, by omega⟩
  go_wp2_with fail
  refine (hbc _ (Ht.out.below hB3)).mono ?_
  rintro e w4 ⟨rfl, hb4⟩
  obtain ⟨hc4, hf4⟩ := bcell hb4
  have hB4 : Below w.heap.size w w4 := hB3.trans (hb4.mono (by omega))
  have hz4 : w.heap.size + 2 < w4.heap.size := (by have := hb4.size; omega)
  have hy4 : w.heap.size < w4.heap.size ∧ w.heap.size + 1 < w4.heap.size := ⟨by omega, by omega⟩
  go_wp2_with fail
  refine (hac _ (Ht.out.below hB4)).mono ?_
  rintro e w5 ⟨rfl, hb5⟩
  obtain ⟨hc5, hf5⟩ := bcell hb5
  have hB5 : Below w.heap.size w w5 := hB4.trans (hb5.mono (by omega))
  have hz5 : w.heap.size + 2 < w5.heap.size := (by have := hb5.size; omega)
  have hy5 : w.heap.size < w5.heap.size ∧ w.heap.size + 1 < w5.heap.size := ⟨by omega, by omega⟩
  clear hb1 hb2 hb3 hb4 hb5 h12 hab hba hbc hac hB1 hB2 hB3 hB4 hf1 hf2 hf3 hf4 hf5
  by_cases hE0 : E ≠ 0 ∨ F ≠ 0
  · obtain ⟨a, b, rfl, rfl⟩ := HE.out hE0
    have a1 : (E != 0) = true := by simpa using a
    have b1 : (F != 0) = true := by simpa using b
    clear hE0 a b
    go_wp2
    go_ret
    exact ⟨rfl, hB5⟩
  · obtain ⟨rfl, rfl⟩ : E = 0 ∧ F = 0 := by omega
    obtain ⟨rfl, hq⟩ := H0.out rfl
    have hcmp : ∀ w, (binOp .eql 23 (vv t n s) (vv t' n' s')).run Tryd.prog w = .ok (.bool (x == 0)) w := by
      intro w
      rw [eq_val]
      by_cases hx0 : x = 0
      · simp [hx0, (hq.1 hx0).1, (hq.1 hx0).2.1, (hq.1 hx0).2.2]
      · have hx1 : (x == 0) = false := by simpa using hx0
        have : ¬ (t = t' ∧ n = n' ∧ s.toList = s'.toList) := fun h => hx0 (hq.2 h)
        rw [hx1]
        simp only [Result.ok.injEq, Value.bool.injEq, and_true, Bool.and_eq_false_iff, beq_eq_false_iff_ne, ne_eq]
        by_cases a : t = t'
        · by_cases b : n = n'
          · exact Or.inr (fun c => this ⟨a, b, c⟩)
          · exact Or.inl (Or.inr b)
        · exact Or.inl (Or.inl a)
    clear hE0 hq H0 HE
    by_cases hG0 : G = 0
    · subst hG0
      obtain ⟨rfl, hu⟩ := HG.out rfl rfl
      have Hu := Lib.hid hu
      clear hu HG
      by_cases h0x : 0 < x
      · go_wp2
        go_ret
        exact ⟨rfl, hB5⟩
      · by_cases h0z : 0 < z
        · go_wp2
          go_ret
          exact ⟨rfl, hB5⟩
        · obtain rfl := Hu.out (by omega) (by omega)
          clear Hu
          go_wp2
          go_ret
          exact ⟨rfl, hB5⟩
    · have g1 : (G != 0) = true := by simpa using hG0
      clear HG hG0
      go_wp2
      go_ret
      exact ⟨rfl, hB5⟩
end Go.Proofs.YtiobdkibbhpojaaDoor
