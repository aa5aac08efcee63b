/- dual.Kind, graph.Check of a graph that is right; a symbolic walk. -/
-- TYPESA
import Derived.Test.YtnclmjbkkgghhaaDoorH14
import Derived.Test.YtnclmjbkkgghhaaDoorHQ4
set_option linter.unusedVariables false
set_option linter.unusedSimpArgs false
namespace Go.Proofs.YtnclmjbkkgghhaaDoor
open Go.RowKit Go.Sw

theorem shaped_of {k so : Int} {ls : List ByteArray} {l : List Tp} (h : shp k so ls l.length) : shapedB (.mk k so noB ls l) = true := by
  have he : emptyB noB = true := by decide +kernel
  unfold shapedB kindOf shapeB
  rcases h with ⟨rfl, rfl, rfl, hm⟩ | ⟨hk, ⟨h1, h3⟩, rfl, hm⟩ | ⟨hk, rfl, rfl, hm⟩ | ⟨hk, rfl, hl, hm⟩
  · simp [hm, sortB, he]
  · rcases hk with rfl | rfl <;> simp [hm, sortB, he, h1, h3]
  · rcases hk with rfl | rfl <;> simp [hm, sortB, he]
  · rcases hk with rfl | rfl <;> simp [hm, sortB, he, hl]
end Go.Proofs.YtnclmjbkkgghhaaDoor
