/-
  DERIVED. GIVEN WITH THE SEED: THE CARDS: each row of YtdcplkefmpjppaaDoorRows.lean that lists a variable, with what it lists TIED to the program's text (the seventh form; the later family's looks); each row that meets fmt, with fmt's text TOLD by the authors' own Lean function (tested against real Go, not proved from fmt's source: count such statements apart). THE CARD IS WHAT COUNTS. Prove the row's statement (the work); the ties are given (YtdcplkefmpjppaaDoorTie.lean); close each card by the builder's one call (the guide's Derived/Test/ToyasCard.lean, 'card_holds'). Laid BY PROGRAM, IN A SANDBOX (cutbox-door.mjs). By AI agents, Wed Nov 11 2026. No macro, syntax, notation, axiom, sorry.
-/
import Derived.Test.YtdcplkefmpjppaaDoorRows
import GoSem.ClaimSeven
namespace Go.Proofs.YtdcplkefmpjppaaDoor
namespace Rows

/-- THE TIED CARD OF 'duetkeep.GlobalBack'. -/
def globalBackCard : Claim7 := { stood := { row := globalBackRow, standIns := [], harness := (true, "da1e65486c198d5eabd1da3f801f4bd75b59de83c9e46c85b6c4736fd7edad03"), looks := true }, kinds := [], alts := [], laidByText := true, laidKinds := [.data, .widerDeep, .pinned], laidTests := true, laidLooks := .later }
def GlobalBackCardSaid : Prop := Claim7.holds Tryd.pinned (.plain (OpenSpec.ofChange globalBackSpec)) globalBackCard

/-- THE TIED CARD OF 'duetkeep.ChorusEnds'. -/
def chorusEndsCard : Claim7 := { stood := { row := chorusEndsRow, standIns := [], harness := (true, "da1e65486c198d5eabd1da3f801f4bd75b59de83c9e46c85b6c4736fd7edad03"), looks := true }, kinds := [], alts := [], laidByText := true, laidKinds := [.data, .pinned], laidTests := true, laidLooks := .later }
def ChorusEndsCardSaid : Prop := Claim7.holds Tryd.pinned (.plain (OpenSpec.ofChange chorusEndsSpec)) chorusEndsCard

/-- THE TIED CARD OF 'duetkeep.ChorusUnfold'. -/
def chorusUnfoldCard : Claim7 := { stood := { row := chorusUnfoldRow, standIns := [], harness := (true, "da1e65486c198d5eabd1da3f801f4bd75b59de83c9e46c85b6c4736fd7edad03"), looks := true }, kinds := [], alts := [], laidByText := true, laidKinds := [.data, .pinned], laidTests := true, laidLooks := .later }
def ChorusUnfoldCardSaid : Prop := Claim7.holds Tryd.pinned (.plain (OpenSpec.ofChange chorusUnfoldSpec)) chorusUnfoldCard

/-- THE TIED CARD OF 'duetkeep.ChorusSwap'. -/
def chorusSwapCard : Claim7 := { stood := { row := chorusSwapRow, standIns := [], harness := (true, "da1e65486c198d5eabd1da3f801f4bd75b59de83c9e46c85b6c4736fd7edad03"), looks := true }, kinds := [], alts := [], laidByText := true, laidKinds := [.data, .pinned], laidTests := true, laidLooks := .later }
def ChorusSwapCardSaid : Prop := Claim7.holds Tryd.pinned (.plain (OpenSpec.ofChange chorusSwapSpec)) chorusSwapCard

/-- THE TIED CARD OF 'duetkeep.WiresBack'. -/
def wiresBackCard : Claim7 := { stood := { row := wiresBackRow, standIns := [], harness := (true, "da1e65486c198d5eabd1da3f801f4bd75b59de83c9e46c85b6c4736fd7edad03"), looks := true }, kinds := [], alts := [], laidByText := true, laidKinds := [.data, .widerDeep, .pinned], laidTests := true, laidLooks := .later }
def WiresBackCardSaid : Prop := Claim7.holds Tryd.pinned (.plain (OpenSpec.ofChange wiresBackSpec)) wiresBackCard

/-- THE TIED CARD OF 'duetkeep.WiresParts'. -/
def wiresPartsCard : Claim7 := { stood := { row := wiresPartsRow, standIns := [], harness := (true, "da1e65486c198d5eabd1da3f801f4bd75b59de83c9e46c85b6c4736fd7edad03"), looks := true }, kinds := [], alts := [], laidByText := true, laidKinds := [.data, .widerDeep, .pinned], laidTests := true, laidLooks := .later }
def WiresPartsCardSaid : Prop := Claim7.holds Tryd.pinned (.plain (OpenSpec.ofChange wiresPartsSpec)) wiresPartsCard

/-- THE SECOND FORM's CARD OF 'duetkeep.GlobalBack'. -/
def globalBackUptoCard : Claim7 := { stood := { row := globalBackUptoRow, standIns := [], harness := (true, "da1e65486c198d5eabd1da3f801f4bd75b59de83c9e46c85b6c4736fd7edad03"), looks := true }, kinds := [], alts := [], laidByText := true, laidKinds := [.data, .widerDeep, .pinned], laidTests := true, laidLooks := .later }
def GlobalBackUptoCardSaid : Prop := Claim7.holds Tryd.pinned (.plain (OpenSpec.upto globalBackSpec)) globalBackUptoCard

/-- THE SECOND FORM's CARD OF 'duetkeep.ChorusEnds'. -/
def chorusEndsUptoCard : Claim7 := { stood := { row := chorusEndsUptoRow, standIns := [], harness := (true, "da1e65486c198d5eabd1da3f801f4bd75b59de83c9e46c85b6c4736fd7edad03"), looks := true }, kinds := [], alts := [], laidByText := true, laidKinds := [.data, .pinned], laidTests := true, laidLooks := .later }
def ChorusEndsUptoCardSaid : Prop := Claim7.holds Tryd.pinned (.plain (OpenSpec.upto chorusEndsSpec)) chorusEndsUptoCard

/-- THE SECOND FORM's CARD OF 'duetkeep.ChorusUnfold'. -/
def chorusUnfoldUptoCard : Claim7 := { stood := { row := chorusUnfoldUptoRow, standIns := [], harness := (true, "da1e65486c198d5eabd1da3f801f4bd75b59de83c9e46c85b6c4736fd7edad03"), looks := true }, kinds := [], alts := [], laidByText := true, laidKinds := [.data, .pinned], laidTests := true, laidLooks := .later }
def ChorusUnfoldUptoCardSaid : Prop := Claim7.holds Tryd.pinned (.plain (OpenSpec.upto chorusUnfoldSpec)) chorusUnfoldUptoCard

/-- THE SECOND FORM's CARD OF 'duetkeep.ChorusSwap'. -/
def chorusSwapUptoCard : Claim7 := { stood := { row := chorusSwapUptoRow, standIns := [], harness := (true, "da1e65486c198d5eabd1da3f801f4bd75b59de83c9e46c85b6c4736fd7edad03"), looks := true }, kinds := [], alts := [], laidByText := true, laidKinds := [.data, .pinned], laidTests := true, laidLooks := .later }
def ChorusSwapUptoCardSaid : Prop := Claim7.holds Tryd.pinned (.plain (OpenSpec.upto chorusSwapSpec)) chorusSwapUptoCard

/-- THE SECOND FORM's CARD OF 'duetkeep.WiresBack'. -/
def wiresBackUptoCard : Claim7 := { stood := { row := wiresBackUptoRow, standIns := [], harness := (true, "da1e65486c198d5eabd1da3f801f4bd75b59de83c9e46c85b6c4736fd7edad03"), looks := true }, kinds := [], alts := [], laidByText := true, laidKinds := [.data, .widerDeep, .pinned], laidTests := true, laidLooks := .later }
def WiresBackUptoCardSaid : Prop := Claim7.holds Tryd.pinned (.plain (OpenSpec.upto wiresBackSpec)) wiresBackUptoCard

/-- THE SECOND FORM's CARD OF 'duetkeep.WiresParts'. -/
def wiresPartsUptoCard : Claim7 := { stood := { row := wiresPartsUptoRow, standIns := [], harness := (true, "da1e65486c198d5eabd1da3f801f4bd75b59de83c9e46c85b6c4736fd7edad03"), looks := true }, kinds := [], alts := [], laidByText := true, laidKinds := [.data, .widerDeep, .pinned], laidTests := true, laidLooks := .later }
def WiresPartsUptoCardSaid : Prop := Claim7.holds Tryd.pinned (.plain (OpenSpec.upto wiresPartsSpec)) wiresPartsUptoCard
end Rows
end Go.Proofs.YtdcplkefmpjppaaDoor
