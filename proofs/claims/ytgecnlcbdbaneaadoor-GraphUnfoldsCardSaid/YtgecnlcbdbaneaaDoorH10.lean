/- graph.Of, below's Is and Why for all types: the walks and the plain facts joined. -/
import Derived.Test.YtgecnlcbdbaneaaDoorH9
import Derived.Test.YtgecnlcbdbaneaaDoorHP5
set_option linter.unusedVariables false
set_option linter.unusedSimpArgs false
namespace Go.Proofs.YtgecnlcbdbaneaaDoor
open Go.RowKit Go.Sw

theorem of_fn (Γ : Gl) (x : Tp) : OfFn Γ x := by
  refine of_fn0 Γ x (fun h => ?_) (fun h => ?_)
  · have := raw_good h
    exact ⟨add_all Γ this.1, this.2.1, this.2.2.1⟩
  · obtain ⟨h1, h2, h3, h4, h5, h6⟩ := raw_good h
    have hp := parted_fn Γ 100 (Nat.le_refl _) (by decide) (fun n h0 h1 => itoa_fn Γ n h0 (by omega)) (rawP x) (by show (rawP x).length ≤ 100; unfold rawP; omega) (fun n hn => (h6 n hn).ok) (fun cl hl hc => grow h6 h5 cl hl (fun c h => by have := hc c h; omega))
    exact least_fn Γ (rawP x) (by show (rawP x).length ≤ 250; unfold rawP; omega) h4 (fun n hn => (h6 n hn).ok) (parted_len _) hp
/-- The least graph of a type that is right. -/
theorem ofP_good {x : Tp} (h : tCheck x = 0) : 0 < (ofP x).length ∧ (ofP x).length ≤ 60 ∧ ∀ n ∈ ofP x, NdG (ofP x).length n := by
  obtain ⟨h1, h2, h3, h4, h5, h6⟩ := raw_good h
  unfold ofP
  rw [if_pos h]
  have := least_good (g := rawP x) h4 h6
  exact ⟨this.1, Nat.le_trans this.2.1 h5, this.2.2⟩
theorem gAt_mem {g : List Nd} {i : Int} (h0 : 0 ≤ i) (h1 : i < (g.length : Int)) : gAt g i ∈ g := by
  unfold gAt
  rw [List.getD_eq_getElem?_getD, List.getElem?_eq_getElem (by omega), Option.getD_some]
  exact List.getElem_mem _
/-- The law's first question. -/
def sA : Tp := .mk 2 1 noB [] [.mk 1 0 noB [] []]
def sB : Tp := .mk 2 1 noB [] [.mk 2 1 noB [] [.mk 1 0 noB [] []]]
theorem first : wyL sA sB = [dotS] ∧ wyE sA sB = 0 := by
  decide +kernel
end Go.Proofs.YtgecnlcbdbaneaaDoor
