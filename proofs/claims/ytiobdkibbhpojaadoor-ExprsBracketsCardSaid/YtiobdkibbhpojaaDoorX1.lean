/- Expressions as plain data. -/
import Derived.IntWalk
import Derived.Laws.StructEq
import Derived.Test.YtiobdkibbhpojaaDoorXB0
set_option linter.unusedVariables false
set_option linter.unusedSimpArgs false
namespace Go.Proofs.YtiobdkibbhpojaaDoor
open Go.Sw

mutual
def Ex.d : Ex → D
  | .mk k nm t n s l => .agg [.v (.int .i64 k), .v (.string nm), .v (.int .i64 t), .v (.int .i64 n), .v (.string s), .slc (Ex.ds l)]
def Ex.ds : List Ex → List D
  | [] => []
  | x :: l => Ex.d x :: Ex.ds l
end
theorem Ex.ds_len : ∀ l : List Ex, (Ex.ds l).length = l.length
  | [] => rfl
  | x :: l => by simp [Ex.ds, Ex.ds_len l]
theorem Ex.ds_get : ∀ (l : List Ex) (j : Nat) (x : Ex), l[j]? = some x → (Ex.ds l).getD j default = x.d
  | y :: l, 0, x, h => by simp at h; subst h; simp [Ex.ds]
  | y :: l, j + 1, x, h => by
    have := Ex.ds_get l j x (by simpa using h)
    simpa [Ex.ds] using this
theorem emptyL : (⟨#[]⟩ : ByteArray).toList = [] := by decide +kernel
theorem neq_val (t n t' n' : Int) (s s' : ByteArray) (w : World) : (binOp .neq 23 (.agg #[.int .i64 t, .int .i64 n, .string s]) (.agg #[.int .i64 t', .int .i64 n', .string s'])).run Tryd.prog w = .ok (.bool (!(t == t' && n == n' && s.toList == s'.toList))) w := by
  by_cases h1 : t = t'
  · by_cases h2 : n = n'
    · by_cases h3 : s.toList = s'.toList
      · go_simp
      · go_simp
    · go_simp
  · go_simp
set_option maxRecDepth 100000 in
theorem eqs23 (t n t' n' : Int) (s s' : ByteArray) : EqS Tryd.prog 23 [.int .i64 t, .int .i64 n, .string s] [.int .i64 t', .int .i64 n', .string s'] (t == t' && n == n' && s.toList == s'.toList) := by
  intro x y w
  have g1 : (eqGuard .eql 23 x y (.agg #[.int .i64 t, .int .i64 n, .string s]) (.agg #[.int .i64 t', .int .i64 n', .string s'])).run Tryd.prog w = .ok () w := run_eqGuard_agg w .eql 23 x y _ _ (by kernel_rfl)
  have g2 : (eqGuard .neq 23 x y (.agg #[.int .i64 t, .int .i64 n, .string s]) (.agg #[.int .i64 t', .int .i64 n', .string s'])).run Tryd.prog w = .ok () w := run_eqGuard_agg w .neq 23 x y _ _ (by kernel_rfl)
  refine ⟨?_, ?_⟩
  · rw [Sem.run_bind, g1]; exact eq_val t n t' n' s s' w
  · rw [Sem.run_bind, g2]; exact neq_val t n t' n' s s' w
theorem wrap_in {x : Int} (h1 : -9223372036854775808 ≤ x) (h2 : x < 9223372036854775808) : IntKind.i64.wrap x = x := IntWalk.i64_in x ⟨h1, by omega⟩
theorem one_max : 1 ≤ maxLen := by unfold maxLen; omega
end Go.Proofs.YtiobdkibbhpojaaDoor
