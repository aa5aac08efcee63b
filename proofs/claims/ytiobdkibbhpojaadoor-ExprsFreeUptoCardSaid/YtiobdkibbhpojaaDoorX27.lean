/- How long a row that comes in is, by the bulk of what is read. -/
import Derived.Test.YtiobdkibbhpojaaDoorX16
import Derived.Test.YtiobdkibbhpojaaDoorX5
import Derived.Test.YtiobdkibbhpojaaDoorFrame
set_option linter.unusedVariables false
set_option linter.unusedSimpArgs false
namespace Go.Proofs.YtiobdkibbhpojaaDoor
open Go.RowKit Go.Sw

theorem bulk_pos {H : Type} (d : DataW H) : 1 ≤ Rows.uptoBulk d := by
  cases d with
  | lit l => cases l <;> simp [Rows.uptoBulk]
  | _ => simp [Rows.uptoBulk]
theorem bulk_all {H : Type} : ∀ l : List (DataW H), l.length ≤ Rows.uptoBulkAll l
  | [] => by simp [Rows.uptoBulkAll]
  | d :: l => by
    have := bulk_pos d
    have := bulk_all l
    simp only [List.length_cons, Rows.uptoBulkAll]
    omega
theorem bulk_len {H : Type} {enc : TypeId × Value → H} {W : World} {b0 : Nat} {sp : Nat → Bool} {held : Bool} {v : Value} {d : DataW H} {p : List MemPlace} {L : List D} (h : DataW.Trod enc Tryd.prog W b0 sp held 36 v d p) (g : RpD W M0 (.d (.slc L) v)) : L.length ≤ Rows.uptoBulk d := by
  obtain ⟨m, hm⟩ := h
  obtain ⟨a, c, rfl⟩ := slc_at g
  have hc : (Value.slice a L.length c).cells.toList = [.slice a L.length c] := rfl
  rw [hc] at hm
  cases m with
  | zero => simp [DataW.trod] at hm
  | succ m =>
    rcases DataW.trod_slice un36 hm with ⟨h1, -⟩ | ⟨a', len, cap, elems, rest, n, hf, h1, h2, -, -, -, hlen, -⟩
    · simp only [List.cons.injEq, Value.slice.injEq, and_true] at h1
      omega
    · simp only [List.cons.injEq, Value.slice.injEq, and_true] at h1
      simp only [Prod.mk.injEq] at h2
      rw [h2.1]
      have := bulk_all (elems.map (·.1))
      rw [List.length_map] at this
      simp only [Rows.uptoBulk]
      omega
theorem bulk_three {H : Type} {a b c : DataW H} (h : Rows.uptoSmall H ([a, b, c] ++ []) = true) : Rows.uptoBulk b ≤ 1048576 ∧ Rows.uptoBulk c ≤ 1048576 := by
  simp only [Rows.uptoSmall, List.append_nil, Rows.uptoBulkAll, decide_eq_true_eq] at h
  omega
end Go.Proofs.YtiobdkibbhpojaaDoor
