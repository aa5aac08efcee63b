/- Contracts of elder walks, as contracts of plain data: what all need. -/
import Derived.Test.YtiobdkibbhpojaaDoorE1f
import Derived.Test.YtiobdkibbhpojaaDoorShelf
import Derived.Test.YtiobdkibbhpojaaDoorXT
import Derived.Test.YtiobdkibbhpojaaDoorSwB
import Derived.Test.YtiobdkibbhpojaaDoorSwC
set_option linter.unusedVariables false
set_option linter.unusedSimpArgs false
namespace Go.Proofs.YtiobdkibbhpojaaDoor
open Go.RowKit Go.Sw
abbrev iD (n : Int) : D := .v (.int .i64 n)
abbrev sD (s : ByteArray) : D := .v (.string s)
abbrev vD (v : Va) : D := .agg [iD v.t, iD v.n, sD v.s]
/-- What the program keeps for itself: the tables of UTF-8. -/
def Γ0 : Gl := ⟨2, Tabs, fun w w' h ht => ⟨fun c hc => by rw [World.cell?_of_block (w := w) (h 0 (by omega))]; exact ht.1 c hc, fun i hi => ⟨by rw [World.cell?_of_block (w := w) (h 1 (by omega))]; exact (ht.2 i hi).1, by rw [World.cell?_of_block (w := w) (h 1 (by omega))]; exact (ht.2 i hi).2⟩⟩⟩
theorem valid_said : Said.ValidString := fun s w hs ht => Tryd.utf8_ValidString s w hs ht
theorem isName_fn (s : ByteArray) : DFn Tryd.prog Γ0 99 [sD s] (.v (.bool (isNameB s))) := dfn_of (by kernel_rfl) rfl rfl fun w _ => isName_any s w
theorem vcheck_fn (t n : Int) (s : ByteArray) : DFn Tryd.prog Γ0 22 [.agg [iD t, iD n, sD s]] (iD (vcheck t n s)) := dfn_of (by kernel_rfl) rfl rfl fun w h => check_any valid_said t n s w h
end Go.Proofs.YtiobdkibbhpojaaDoor
