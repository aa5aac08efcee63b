/- Types that are below each other do the same. -/
import Derived.Test.YtnclmjbkkgghhaaDoorHQ3
set_option linter.unusedVariables false
set_option linter.unusedSimpArgs false
namespace Go.Proofs.YtnclmjbkkgghhaaDoor
open Go.RowKit Go.Sw

theorem less_irr : ∀ a : List UInt8, Op.bytesLess a a = false
  | [] => rfl
  | x :: a => by
    unfold Op.bytesLess
    rw [less_irr a]
    simp
theorem less_trans : ∀ a b c : List UInt8, Op.bytesLess a b = true → Op.bytesLess b c = true → Op.bytesLess a c = true
  | _, [], _, h, _ => by simp [Op.bytesLess] at h
  | _, _ :: _, [], _, h => by simp [Op.bytesLess] at h
  | [], _ :: _, _ :: _, _, _ => by simp [Op.bytesLess]
  | x :: a, y :: b, z :: c, h1, h2 => by
    simp only [Op.bytesLess, Bool.or_eq_true, decide_eq_true_iff, Bool.and_eq_true, beq_iff_eq] at h1 h2 ⊢
    rcases h1 with h1 | ⟨h1, h3⟩ <;> rcases h2 with h2 | ⟨h2, h4⟩
    · exact .inl (UInt8.lt_trans h1 h2)
    · exact .inl (h2 ▸ h1)
    · exact .inl (h1 ▸ h2)
    · exact .inr ⟨h1.trans h2, less_trans a b c h3 h4⟩
theorem less_total : ∀ a b : List UInt8, Op.bytesLess a b = true ∨ a = b ∨ Op.bytesLess b a = true
  | [], [] => .inr (.inl rfl)
  | [], _ :: _ => .inl rfl
  | _ :: _, [] => .inr (.inr rfl)
  | x :: a, y :: b => by
    simp only [Op.bytesLess, Bool.or_eq_true, decide_eq_true_iff, Bool.and_eq_true, beq_iff_eq]
    by_cases h1 : x < y
    · exact .inl (.inl h1)
    by_cases h2 : y < x
    · exact .inr (.inr (.inl h2))
    have e : x = y := UInt8.le_antisymm (UInt8.not_lt.1 h2) (UInt8.not_lt.1 h1)
    subst e
    rcases less_total a b with h | h | h
    · exact .inl (.inr ⟨rfl, h⟩)
    · exact .inr (.inl (by rw [h]))
    · exact .inr (.inr (.inr ⟨rfl, h⟩))
/-- What a node's kind asks for, just so. -/
def shp (k so : Int) (ls : List ByteArray) (m : Nat) : Prop :=
  (k = 1 ∧ so = 0 ∧ ls = [] ∧ m = 0) ∨ ((k = 2 ∨ k = 3) ∧ (1 ≤ so ∧ so ≤ 3) ∧ ls = [] ∧ m = 1) ∨ ((k = 4 ∨ k = 5) ∧ so = 0 ∧ ls = [] ∧ m = 2) ∨ ((k = 6 ∨ k = 7) ∧ so = 0 ∧ labelsB ls = true ∧ m = ls.length)
theorem len1 {α : Type} {l : List α} (h : l.length = 1) : ∃ x, l = [x] := by
  match l, h with
  | [x], _ => exact ⟨x, rfl⟩
/-- What a type does. -/
def trT (x : Tp) (n : Nat) : Tr := obs (rawP x) n 0
/-- graph.Same: the same trees. -/
theorem of_iff {x y : Tp} (hx : tCheck x = 0) (hy : tCheck y = 0) : ofP x = ofP y ↔ ∀ n, trT x n = trT y n := by
  obtain ⟨-, -, -, h4, h5, h6⟩ := raw_good hx
  obtain ⟨-, -, -, g4, g5, g6⟩ := raw_good hy
  unfold ofP
  rw [if_pos hx, if_pos hy]
  exact least_iff (g := rawP x) (h := rawP y) h6 h4 g6 g4
end Go.Proofs.YtnclmjbkkgghhaaDoor
