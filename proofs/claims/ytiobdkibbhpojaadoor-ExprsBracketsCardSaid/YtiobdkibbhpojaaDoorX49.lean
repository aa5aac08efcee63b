/- exprs, plain: brackets and blanks around a text change nothing. -/
import Derived.Test.YtiobdkibbhpojaaDoorX48
import Derived.Test.YtiobdkibbhpojaaDoorX42
set_option linter.unusedVariables false
set_option linter.unusedSimpArgs false
namespace Go.Proofs.YtiobdkibbhpojaaDoor
open Go.RowKit Go.Sw

/-- Brackets. -/
def brO (k : Nat) : List UInt8 := List.replicate k 40
def brC (k : Nat) : List UInt8 := List.replicate k 41
theorem brC_cl (k : Nat) : Cl (brC k) := by
  cases k with
  | zero => exact .inl rfl
  | succ k => exact .inr ⟨_, rfl⟩
/-- What stands in brackets is read as without. -/
theorem par_up {t : ByteArray} (ht : t.size ≤ 2000) {p : Nat} {z z2 : List UInt8} {x : Ex} {b : Nat} (hp : p ≤ t.size) (h1 : tl t p = 40 :: z) (hb : b ≤ t.size) (hr : RdS t 93 [.d (iD 1)] (p + 1) (.ok x b))
    (h2 : tl t (wAt t b) = 41 :: z2) (hz : Cl z2) : RdS t 93 [.d (iD 1)] p (.ok x (wAt t b + 1)) ∧ wAt t b + 1 ≤ t.size ∧ wAt t (wAt t b + 1) = wAt t b + 1 := by
  have hwp : wAt t p = p := wAt_here h1 (by decide)
  have hof : wOf t p = ⟨[40].toArray⟩ := by rw [wOf_eq, hwp, h1, sign_word 40 _ (by decide)]; rfl
  have hob : wOf t b = ⟨[41].toArray⟩ := by rw [wOf_eq, h2, sign_word 41 _ (by decide)]; rfl
  obtain ⟨q0, q1, -⟩ := tl_cons h1
  obtain ⟨q2, q3, -⟩ := tl_cons h2
  have h3 := one_par t ht p hp (tok_ne (by rw [hof]; decide)) (tok_ne (by rw [hof]; decide)) (tok_ne (by rw [hof]; decide)) (by rw [hof]; exact tok_rfl _) (by rw [hwp]; omega) x b hb (by rw [hwp]; exact hr) (by rw [hob]; exact tok_rfl _)
  have hq : wAt t (wAt t b + 1) = wAt t b + 1 := by rw [wAt_eq, q3, hz.skip]
  have hlv : wLev t (wAt t b + 1) = 0 := by
    rw [wLev_eq, q3]
    unfold levT
    rw [hz.skip, List.drop_zero]
    exact hz.lev
  have h4 := all_ok t ht 1 p hp x (wAt t b + 1) (by omega) h3 x _ (.stop x _ (.inr hlv))
  rw [hq] at h4
  exact ⟨h4, by omega, hq⟩
theorem climb {t : ByteArray} (ht : t.size ≤ 2000) (k e : Nat) (hk : k ≤ t.size) (hO : ∀ j, j < k → ∃ z, tl t j = 40 :: z) (hC : tl t e = brC k) (x : Ex) (b0 : Nat) (hb0 : b0 ≤ t.size) (hw : wAt t b0 = e) (h0 : RdS t 93 [.d (iD 1)] k (.ok x b0)) :
    ∀ j, j ≤ k → ∃ b, b ≤ t.size ∧ wAt t b = e + j ∧ RdS t 93 [.d (iD 1)] (k - j) (.ok x b)
  | 0, _ => ⟨b0, hb0, hw, h0⟩
  | j + 1, hj => by
    obtain ⟨b, h1, h2, h3⟩ := climb ht k e hk hO hC x b0 hb0 hw h0 j (by omega)
    obtain ⟨z, hz⟩ := hO (k - (j + 1)) (by omega)
    have h4 : tl t (wAt t b) = 41 :: brC (k - j - 1) := by
      rw [h2, ← tl_tl, hC]
      unfold brC
      rw [List.drop_replicate, show k - j = (k - j - 1) + 1 from by omega, List.replicate_succ]
      rfl
    obtain ⟨h5, h6, h7⟩ := par_up ht (p := k - (j + 1)) (by omega) hz h1 (by rw [show k - (j + 1) + 1 = k - j from by omega]; exact h3) h4 (brC_cl _)
    exact ⟨_, h6, by rw [h7, h2]; omega, h5⟩
theorem ctx_of {s t : ByteArray} {k : Nat} (hs : s.size ≤ 2000) (ht : t.size ≤ 2000) (e : t.data.toList = (brO k ++ [32]) ++ (s.data.toList ++ 32 :: brC k)) : Ctx s t (k + 1) (brC k) := by
  refine ⟨hs, ht, brC_cl k, fun a ha => ?_⟩
  have hl : (brO k ++ [32]).length = k + 1 := by simp [brO]
  have hl2 : a ≤ s.data.toList.length := by rw [Utf.sizeL]; exact ha
  show t.data.toList.drop (a + (k + 1)) = _
  rw [e, Nat.add_comm a, ← List.drop_drop, ← hl, List.drop_left, List.drop_append_of_le_length hl2]
theorem parse_good {t : ByteArray} (ht : t.size ≤ 2000) {x : Ex} {b : Nat} (hr : RdS t 93 [.d (iD 1)] 0 (.ok x b)) (hb : b ≤ t.size) (hc : eCheck x = 0) (hw : ¬ wAt t b < t.size) : DFn Tryd.prog Γ1 34 [sD t] (parD (x, 0, 0)) := by
  have h := begin_fn t ht 0 0 0 (by rw [if_neg (by omega)]) rfl (Nat.zero_le _) (.ok x b) hr (fun y c q => by cases q; exact hb)
  unfold begR at h
  simp only [if_pos hc] at h
  exact parse_ok t _ _ h hw
/-- Parse of a text, and of the text in brackets. -/
theorem parse_ctx (s t : ByteArray) (k : Nat) (e : t.data.toList = (brO k ++ [32]) ++ (s.data.toList ++ 32 :: brC k)) : ∃ p : Ex × (Int × Int), DFn Tryd.prog Γ1 34 [sD s] (parD p) ∧ (p.2.1 ≠ 0 → p.1 = Ex.zero) ∧
    (p.2.1 = 0 → eCheck p.1 = 0 ∧ (t.size ≤ 2000 → DFn Tryd.prog Γ1 34 [sD t] (parD (p.1, 0, 0)))) := by
  by_cases ht : t.size ≤ 2000
  · have hz := congrArg List.length e
    rw [List.length_append, List.length_append, List.length_append, List.length_cons, Utf.sizeL, Utf.sizeL] at hz
    have hs : s.size ≤ 2000 := by omega
    have hc := ctx_of hs ht e
    have hsz := hc.size
    obtain ⟨R, hr, hg, hj⟩ := (rd_jt hc s.size 0 (by omega) (Nat.zero_le _)).2 1
    refine ⟨_, parse_fn s hs R hr hg, ?_⟩
    cases R with
    | no e' b => exact ⟨fun _ => rfl, fun h => absurd h (hg.2 e' b rfl)⟩
    | ok x b =>
      unfold parR
      by_cases hch : eCheck x = 0
      · simp only [if_pos hch]
        by_cases hn : wAt s b < s.size
        · rw [if_pos hn]; exact ⟨fun _ => rfl, fun h => absurd (show (3 : Int) = 0 from h) (by decide)⟩
        · rw [if_neg hn]
          refine ⟨fun h => absurd rfl h, fun _ => ⟨hch, fun _ => ?_⟩⟩
          have hO : ∀ j, j < k → ∃ z, tl t j = 40 :: z := fun j hj => by
            refine ⟨brO (k - j - 1) ++ ([32] ++ (s.data.toList ++ 32 :: brC k)), ?_⟩
            show t.data.toList.drop j = _
            rw [e, List.append_assoc, List.drop_append_of_le_length (by simp [brO]; omega)]
            unfold brO
            rw [List.drop_replicate, show k - j = (k - j - 1) + 1 from by omega, List.replicate_succ]
            rfl
          have hk1 : tl t k = 32 :: (s.data.toList ++ 32 :: brC k) := by
            show t.data.toList.drop k = _
            have hl : (brO k).length = k := by simp [brO]
            have h9 := List.drop_left (l₁ := brO k) (l₂ := [32] ++ (s.data.toList ++ 32 :: brC k))
            rw [hl] at h9
            rw [e, List.append_assoc]
            exact h9
          have hrel : Rel s t (k + 1) 0 k := by
            have := rel_shift hc (a := 0) (Nat.zero_le _)
            rw [Nat.zero_add] at this
            exact this.of_wat (by omega) (wAt_blank hk1)
          obtain ⟨R', f1, f2, f3⟩ := hj k hrel
          obtain ⟨b', rfl, hrb⟩ := f3 x b rfl
          have hwb : wAt t b' = k + 1 + s.size + 1 := by
            obtain ⟨-, -, q | q⟩ := hrb
            · exact absurd q.1 hn
            · exact q.2
          have hC : tl t (k + 1 + s.size + 1) = brC k := by
            have h4 := hc.at' s.size (Nat.le_refl _)
            rw [show tl s s.size = [] from List.drop_of_length_le (by rw [Utf.sizeL]; exact Nat.le_refl _), List.nil_append] at h4
            rw [show k + 1 + s.size + 1 = s.size + (k + 1) + 1 from by omega]
            exact (tl_cons h4).2.1
          obtain ⟨bb, m1, m2, m3⟩ := climb ht k _ (by omega) hO hC x b' hrb.2.1 hwb f1 k (Nat.le_refl _)
          rw [Nat.sub_self] at m3
          have hCl : (brC k).length = k := by simp [brC]
          rw [hCl] at hsz
          exact parse_good ht m3 m1 hch (by omega)
      · simp only [if_neg hch]
        exact ⟨fun _ => trivial, fun h => absurd (show (2 : Int) = 0 from h) (by decide)⟩
  · obtain ⟨p, h1, h2, h3⟩ := parse_tot s
    exact ⟨p, h1, h3, fun h => ⟨(h2 h).2.1, fun q => absurd q ht⟩⟩
end Go.Proofs.YtiobdkibbhpojaaDoor
