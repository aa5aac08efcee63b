/- What is written of a number is read as that number; plain lists of bytes. No conditions but those that each law names. -/
import Derived.Lib.ParseIntB
import Derived.Lib.ItoaNum
set_option linter.unusedVariables false
set_option linter.unusedSimpArgs false
namespace Go.Proofs.YtiobdkibbhpojaaDoor

theorem dig_nat {u : Nat} (h : u < 10) : (UInt8.ofNat (48 + u)).toNat = 48 + u := by
  rw [UInt8.toNat_ofNat']
  omega
theorem dec_head (u : Nat) : ∃ c r, Lib.decDigits u = c :: r ∧ 48 ≤ c.toNat ∧ c.toNat ≤ 57 := by
  induction u using Nat.strongRecOn with
  | _ u ih =>
    rw [Lib.decDigits]
    by_cases h : u < 10
    · rw [dif_pos h]
      exact ⟨_, [], rfl, by rw [dig_nat h]; omega, by rw [dig_nat h]; omega⟩
    · rw [dif_neg h]
      obtain ⟨c, r, h1, h2, h3⟩ := ih (u / 10) (by omega)
      rw [h1]
      exact ⟨c, r ++ _, rfl, h2, h3⟩
theorem parse_dec (M : Nat) (hM : M ≤ 18446744073709551615) : ∀ (u : Nat), u ≤ M → ∀ rest, Lib.parseUintM M 0 (Lib.decDigits u ++ rest) = Lib.parseUintM M u rest := by
  intro u
  induction u using Nat.strongRecOn with
  | _ u ih =>
    intro hu rest
    rw [Lib.decDigits]
    by_cases h : u < 10
    · rw [dif_pos h, List.cons_append, List.nil_append, Lib.parseUintM, dig_nat h, if_pos (by omega), if_neg (by omega), if_neg (by omega)]
      congr 1
      omega
    · rw [dif_neg h, List.append_assoc, ih (u / 10) (by omega) (by omega), List.cons_append, List.nil_append, Lib.parseUintM, dig_nat (by omega), if_pos (by omega), if_neg (by omega), if_neg (by omega)]
      congr 1
      omega
theorem parse_itoa (n : Int) (h0 : -9223372036854775808 ≤ n) (h1 : n ≤ 9223372036854775807) : Lib.parseIntB 64 (Lib.itoa n) = .ok n := by
  unfold Lib.itoa
  by_cases hn : n < 0
  · rw [if_pos hn]
    obtain ⟨c, r, e, -, -⟩ := dec_head n.natAbs
    have hp : Lib.parseUintB 64 (Lib.decDigits n.natAbs) = .ok n.natAbs := by
      unfold Lib.parseUintB
      rw [if_neg (by rw [e]; simp)]
      have := parse_dec (2 ^ 64 - 1) (by omega) n.natAbs (by omega) []
      rw [List.append_nil] at this
      rw [this, Lib.parseUintM]
    unfold Lib.parseIntB
    have h45 : (45 : UInt8).toNat = 45 := rfl
    simp only [h45, or_true, if_true, hp]
    rw [if_neg (by simp), if_neg (by omega)]
    congr 1
    omega
  · rw [if_neg hn]
    obtain ⟨c, r, e, hc1, hc2⟩ := dec_head n.toNat
    have hp : Lib.parseUintB 64 (Lib.decDigits n.toNat) = .ok n.toNat := by
      unfold Lib.parseUintB
      rw [if_neg (by rw [e]; simp)]
      have := parse_dec (2 ^ 64 - 1) (by omega) n.toNat (by omega) []
      rw [List.append_nil] at this
      rw [this, Lib.parseUintM]
    rw [e] at hp ⊢
    unfold Lib.parseIntB
    simp only
    have hc3 : ¬ (c.toNat = 43 ∨ c.toNat = 45) := by omega
    have hc4 : ¬ c.toNat = 45 := by omega
    rw [if_neg hc3, hp]
    simp only [hc4, not_false_eq_true, true_and, false_and, if_false]
    rw [if_neg (by omega)]
    congr 1
    omega
/-- What is written of a number begins with a digit, or with a sign and a digit. -/
theorem itoa_head (n : Int) : ∃ c r, Lib.itoa n = c :: r ∧ 45 ≤ c.toNat ∧ c.toNat ≤ 57 := by
  unfold Lib.itoa
  by_cases hn : n < 0
  · rw [if_pos hn]; exact ⟨45, _, rfl, by decide, by decide⟩
  · rw [if_neg hn]
    obtain ⟨c, r, e, hc1, hc2⟩ := dec_head n.toNat
    exact ⟨c, r, e, by omega, hc2⟩
end Go.Proofs.YtiobdkibbhpojaaDoor
