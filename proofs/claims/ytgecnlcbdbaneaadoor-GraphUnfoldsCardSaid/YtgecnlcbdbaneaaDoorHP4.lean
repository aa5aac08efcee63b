/- below.both's why as a plain function; pairs as keys. -/
import Derived.Test.YtgecnlcbdbaneaaDoorH7
import Derived.Laws.StructEq
import Derived.WideKeyRuns
set_option linter.unusedVariables false
set_option linter.unusedSimpArgs false
namespace Go.Proofs.YtgecnlcbdbaneaaDoor
open Go.RowKit Go.Sw Go.MapKept

abbrev Qu := List (Pr × List ByteArray)
def hasQ (p : Pr) (qu : Qu) : Bool := qu.any fun q => decide (p = q.1)
def addQ (path : List ByteArray) (qu : Qu) (s : ByteArray × Pr) : Qu := if hasQ s.2 qu = true then qu else qu ++ [(s.2, path ++ [s.1])]
def whyF (g h : List Nd) : Nat → Nat → Qu → Option (List ByteArray)
  | 0, _, _ => none
  | f + 1, at', qu => match qu[at']? with
    | none => none
    | some (p, path) => match fitsP g h p with
      | none => some path
      | some l => whyF g h f (at' + 1) (l.foldl (addQ path) qu)
/-- below.both's why. -/
def whyP (g h : List Nd) : Option (List ByteArray) := whyF g h (2 * g.length * h.length + 1) 0 [(⟨0, 0, false⟩, [])]
/-- In a queue each pair stands once, pairs are pairs of nodes, ways are no longer than where they stand. -/
structure QI (n m : Nat) (qu : Qu) : Prop where
  nd : (qu.map (·.1)).Nodup
  r : ∀ q ∈ qu, (0 ≤ q.1.a ∧ q.1.a < (n : Int)) ∧ 0 ≤ q.1.b ∧ q.1.b < (m : Int)
  p : ∀ (i : Nat) (q : Pr × List ByteArray), qu[i]? = some q → q.2.length ≤ i
theorem has_mem {p : Pr} {qu : Qu} : hasQ p qu = true ↔ p ∈ qu.map (·.1) := by
  simp only [hasQ, List.any_eq_true, decide_eq_true_iff, List.mem_map]
  constructor
  · rintro ⟨q, h1, h2⟩; exact ⟨q, h1, h2.symm⟩
  · rintro ⟨q, h1, h2⟩; exact ⟨q, h1, h2.symm⟩
theorem QI.add {n m : Nat} {qu : Qu} (h : QI n m qu) {at' : Nat} {path : List ByteArray} (hp : path.length ≤ at') (ha : at' < qu.length) {s : ByteArray × Pr} (hs : (0 ≤ s.2.a ∧ s.2.a < (n : Int)) ∧ 0 ≤ s.2.b ∧ s.2.b < (m : Int)) : QI n m (addQ path qu s) := by
  unfold addQ
  split
  · exact h
  · rename_i hx
    refine ⟨?_, fun q hq => ?_, fun i q hq => ?_⟩
    · rw [List.map_append]
      refine List.nodup_append.2 ⟨h.nd, by simp, fun a h1 b h2 hab => ?_⟩
      obtain rfl : b = s.2 := by simpa using h2
      exact hx (has_mem.2 (hab ▸ h1))
    · rcases List.mem_append.1 hq with hq | hq
      · exact h.r q hq
      · obtain rfl : q = (s.2, path ++ [s.1]) := by simpa using hq
        exact hs
    · by_cases hi : i < qu.length
      · rw [List.getElem?_append_left hi] at hq; exact h.p i q hq
      · rw [List.getElem?_append_right (by omega)] at hq
        by_cases h0 : i - qu.length = 0
        · rw [h0] at hq
          simp at hq
          subst hq
          simp; omega
        · rw [List.getElem?_eq_none (by simp; omega)] at hq; cases hq
theorem QI.len {n m : Nat} {qu : Qu} (h : QI n m qu) : qu.length ≤ 2 * n * m := by
  have := pigeon (2 * n * m) (qu.map fun q => (q.1.a * m + q.1.b) * 2 + (if q.1.t = true then 1 else 0)) ?_ ?_
  · simpa using this
  · rw [List.Nodup, List.pairwise_map]
    have hn := h.nd
    rw [List.Nodup, List.pairwise_map] at hn
    refine hn.imp_of_mem fun {x y} hx hy hne he => hne ?_
    obtain ⟨⟨a0, a1⟩, b0, b1⟩ := h.r x hx
    obtain ⟨⟨c0, c1⟩, d0, d1⟩ := h.r y hy
    obtain ⟨⟨xa, xb, xt⟩, xp⟩ := x
    obtain ⟨⟨ya, yb, yt⟩, yp⟩ := y
    simp only at a0 a1 b0 b1 c0 c1 d0 d1 he ⊢
    have ht : xt = yt := by cases xt <;> cases yt <;> simp at he ⊢ <;> omega
    subst ht
    have e : xa * m + xb = ya * m + yb := by omega
    have e1 : xa = ya := by
      have q1 : (xa * m + xb) / m = xa := by rw [Int.add_comm, Int.add_mul_ediv_right _ _ (by omega), Int.ediv_eq_zero_of_lt b0 b1]; omega
      have q2 : (ya * m + yb) / m = ya := by rw [Int.add_comm, Int.add_mul_ediv_right _ _ (by omega), Int.ediv_eq_zero_of_lt d0 d1]; omega
      rw [← q1, ← q2, e]
    subst e1
    have : xb = yb := by omega
    rw [this]
  · intro v hv
    obtain ⟨x, hx, rfl⟩ := List.mem_map.1 hv
    obtain ⟨⟨a0, a1⟩, b0, b1⟩ := h.r x hx
    have h1 : 0 ≤ x.1.a * (m : Int) := Int.mul_nonneg a0 (by omega)
    have h2 : (x.1.a + 1) * (m : Int) ≤ (n : Int) * (m : Int) := Int.mul_le_mul_of_nonneg_right (by omega) (by omega)
    have h3 : ((2 * n * m : Nat) : Int) = 2 * ((n : Int) * (m : Int)) := by push_cast; rw [Int.mul_assoc]
    rw [h3]
    rw [Int.add_mul] at h2
    split <;> omega
end Go.Proofs.YtgecnlcbdbaneaaDoor
