/- The numbers of an expression that comes in. -/
import Derived.Test.YtiobdkibbhpojaaDoorX28
import Derived.Test.YtiobdkibbhpojaaDoorX37
set_option linter.unusedVariables false
namespace Go.Proofs.YtiobdkibbhpojaaDoor
open Go.RowKit Go.Sw
mutual
theorem rng_of : ∀ x : Ex, x.bound → x.rng
  | .mk k nm t n s l, h => by
    unfold Ex.bound at h
    obtain ⟨-, -, -, -, h5, -, h7⟩ := h
    exact rng_mk (wf_range h5) (rngs_of l h7)
theorem rngs_of : ∀ l : List Ex, Ex.bounds l → Ex.rngs l
  | [], _ => rngs0
  | x :: l, h => by
    unfold Ex.bounds at h
    exact rngs1 (rng_of x h.1) (rngs_of l h.2)
end
end Go.Proofs.YtiobdkibbhpojaaDoor
