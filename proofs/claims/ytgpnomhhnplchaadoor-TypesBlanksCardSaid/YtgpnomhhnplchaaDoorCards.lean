/-
  DERIVED. GIVEN WITH THE SEED: THE CARDS: each row of YtgpnomhhnplchaaDoorRows.lean that lists a variable, with what it lists TIED to the program's text (the seventh form; the later family's looks); each row that meets fmt, with fmt's text TOLD by the authors' own Lean function (tested against real Go, not proved from fmt's source: count such statements apart). THE CARD IS WHAT COUNTS. Prove the row's statement (the work); the ties are given (YtgpnomhhnplchaaDoorTie.lean); close each card by the builder's one call (the guide's Derived/Test/ToyasCard.lean, 'card_holds'). Laid BY PROGRAM, IN A SANDBOX (cutbox-door.mjs). By AI agents, Wed Nov 11 2026. No macro, syntax, notation, axiom, sorry.
-/
import Derived.Test.YtgpnomhhnplchaaDoorRows
import GoSem.ClaimSeven
namespace Go.Proofs.YtgpnomhhnplchaaDoor
namespace Rows

/-- THE TIED CARD OF 'duetkeep.GlobalBack'. -/
def globalBackCard : Claim7 := { stood := { row := globalBackRow, standIns := [], harness := (true, "107b4ac99c171732df396e22de7bdd1282f0fb598897c7aa8ab7903b67239cf6"), looks := true }, kinds := [], alts := [], laidByText := true, laidKinds := [.data, .widerDeep, .pinned], laidTests := true, laidLooks := .later }
def GlobalBackCardSaid : Prop := Claim7.holds Tryd.pinned (.plain (OpenSpec.ofChange globalBackSpec)) globalBackCard

/-- THE TIED CARD OF 'duetkeep.TypesBack'. -/
def typesBackCard : Claim7 := { stood := { row := typesBackRow, standIns := [], harness := (true, "107b4ac99c171732df396e22de7bdd1282f0fb598897c7aa8ab7903b67239cf6"), looks := true }, kinds := [], alts := [], laidByText := true, laidKinds := [.data, .widerDeep, .pinned], laidTests := true, laidLooks := .later }
def TypesBackCardSaid : Prop := Claim7.holds Tryd.pinned (.plain (OpenSpec.ofChange typesBackSpec)) typesBackCard

/-- THE TIED CARD OF 'duetkeep.WiresBack'. -/
def wiresBackCard : Claim7 := { stood := { row := wiresBackRow, standIns := [], harness := (true, "107b4ac99c171732df396e22de7bdd1282f0fb598897c7aa8ab7903b67239cf6"), looks := true }, kinds := [], alts := [], laidByText := true, laidKinds := [.data, .widerDeep, .pinned], laidTests := true, laidLooks := .later }
def WiresBackCardSaid : Prop := Claim7.holds Tryd.pinned (.plain (OpenSpec.ofChange wiresBackSpec)) wiresBackCard

/-- THE TIED CARD OF 'duetkeep.WiresParts'. -/
def wiresPartsCard : Claim7 := { stood := { row := wiresPartsRow, standIns := [], harness := (true, "107b4ac99c171732df396e22de7bdd1282f0fb598897c7aa8ab7903b67239cf6"), looks := true }, kinds := [], alts := [], laidByText := true, laidKinds := [.data, .widerDeep, .pinned], laidTests := true, laidLooks := .later }
def WiresPartsCardSaid : Prop := Claim7.holds Tryd.pinned (.plain (OpenSpec.ofChange wiresPartsSpec)) wiresPartsCard

/-- THE TIED CARD OF 'duetkeep.TypesBlanks'. -/
def typesBlanksCard : Claim7 := { stood := { row := typesBlanksRow, standIns := [], harness := (true, "107b4ac99c171732df396e22de7bdd1282f0fb598897c7aa8ab7903b67239cf6"), looks := true }, kinds := [], alts := [], laidByText := true, laidKinds := [.data, .widerDeep, .pinned], laidTests := true, laidLooks := .later }
def TypesBlanksCardSaid : Prop := Claim7.holds Tryd.pinned (.plain (OpenSpec.ofChange typesBlanksSpec)) typesBlanksCard

/-- THE SECOND FORM's CARD OF 'duetkeep.GlobalBack'. -/
def globalBackUptoCard : Claim7 := { stood := { row := globalBackUptoRow, standIns := [], harness := (true, "107b4ac99c171732df396e22de7bdd1282f0fb598897c7aa8ab7903b67239cf6"), looks := true }, kinds := [], alts := [], laidByText := true, laidKinds := [.data, .widerDeep, .pinned], laidTests := true, laidLooks := .later }
def GlobalBackUptoCardSaid : Prop := Claim7.holds Tryd.pinned (.plain (OpenSpec.upto globalBackSpec)) globalBackUptoCard

/-- THE SECOND FORM's CARD OF 'duetkeep.TypesBack'. -/
def typesBackUptoCard : Claim7 := { stood := { row := typesBackUptoRow, standIns := [], harness := (true, "107b4ac99c171732df396e22de7bdd1282f0fb598897c7aa8ab7903b67239cf6"), looks := true }, kinds := [], alts := [], laidByText := true, laidKinds := [.data, .widerDeep, .pinned], laidTests := true, laidLooks := .later }
def TypesBackUptoCardSaid : Prop := Claim7.holds Tryd.pinned (.plain (OpenSpec.upto typesBackSpec)) typesBackUptoCard

/-- THE SECOND FORM's CARD OF 'duetkeep.WiresBack'. -/
def wiresBackUptoCard : Claim7 := { stood := { row := wiresBackUptoRow, standIns := [], harness := (true, "107b4ac99c171732df396e22de7bdd1282f0fb598897c7aa8ab7903b67239cf6"), looks := true }, kinds := [], alts := [], laidByText := true, laidKinds := [.data, .widerDeep, .pinned], laidTests := true, laidLooks := .later }
def WiresBackUptoCardSaid : Prop := Claim7.holds Tryd.pinned (.plain (OpenSpec.upto wiresBackSpec)) wiresBackUptoCard

/-- THE SECOND FORM's CARD OF 'duetkeep.WiresParts'. -/
def wiresPartsUptoCard : Claim7 := { stood := { row := wiresPartsUptoRow, standIns := [], harness := (true, "107b4ac99c171732df396e22de7bdd1282f0fb598897c7aa8ab7903b67239cf6"), looks := true }, kinds := [], alts := [], laidByText := true, laidKinds := [.data, .widerDeep, .pinned], laidTests := true, laidLooks := .later }
def WiresPartsUptoCardSaid : Prop := Claim7.holds Tryd.pinned (.plain (OpenSpec.upto wiresPartsSpec)) wiresPartsUptoCard

/-- THE SECOND FORM's CARD OF 'duetkeep.TypesBlanks'. -/
def typesBlanksUptoCard : Claim7 := { stood := { row := typesBlanksUptoRow, standIns := [], harness := (true, "107b4ac99c171732df396e22de7bdd1282f0fb598897c7aa8ab7903b67239cf6"), looks := true }, kinds := [], alts := [], laidByText := true, laidKinds := [.data, .widerDeep, .pinned], laidTests := true, laidLooks := .later }
def TypesBlanksUptoCardSaid : Prop := Claim7.holds Tryd.pinned (.plain (OpenSpec.upto typesBlanksSpec)) typesBlanksUptoCard
end Rows
end Go.Proofs.YtgpnomhhnplchaaDoor
