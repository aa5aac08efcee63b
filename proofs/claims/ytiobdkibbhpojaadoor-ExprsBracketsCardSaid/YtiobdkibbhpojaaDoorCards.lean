/-
  DERIVED. GIVEN WITH THE SEED: THE CARDS: each row of YtiobdkibbhpojaaDoorRows.lean that lists a variable, with what it lists TIED to the program's text (the seventh form; the later family's looks); each row that meets fmt, with fmt's text TOLD by the authors' own Lean function (tested against real Go, not proved from fmt's source: count such statements apart). THE CARD IS WHAT COUNTS. Prove the row's statement (the work); the ties are given (YtiobdkibbhpojaaDoorTie.lean); close each card by the builder's one call (the guide's Derived/Test/ToyasCard.lean, 'card_holds'). Laid BY PROGRAM, IN A SANDBOX (cutbox-door.mjs). By AI agents, Wed Nov 11 2026. No macro, syntax, notation, axiom, sorry.
-/
import Derived.Test.YtiobdkibbhpojaaDoorRows
import GoSem.ClaimSeven
namespace Go.Proofs.YtiobdkibbhpojaaDoor
namespace Rows

/-- THE TIED CARD OF 'duetkeep.ValuesOrder'. -/
def valuesOrderCard : Claim7 := { stood := { row := valuesOrderRow, standIns := [], harness := (true, "981e1c02980a8d54a9d35b484abf77a5f558320026f646b4d7e5d79f114f8ce9"), looks := true }, kinds := [], alts := [], laidByText := true, laidKinds := [.data, .pinned], laidTests := true, laidLooks := .later }
def ValuesOrderCardSaid : Prop := Claim7.holds Tryd.pinned (.plain (OpenSpec.ofChange valuesOrderSpec)) valuesOrderCard

/-- THE TIED CARD OF 'duetkeep.ValuesJoin'. -/
def valuesJoinCard : Claim7 := { stood := { row := valuesJoinRow, standIns := [], harness := (true, "981e1c02980a8d54a9d35b484abf77a5f558320026f646b4d7e5d79f114f8ce9"), looks := true }, kinds := [], alts := [], laidByText := true, laidKinds := [.data, .pinned], laidTests := true, laidLooks := .later }
def ValuesJoinCardSaid : Prop := Claim7.holds Tryd.pinned (.plain (OpenSpec.ofChange valuesJoinSpec)) valuesJoinCard

/-- THE TIED CARD OF 'duetkeep.ExprsSorted'. -/
def exprsSortedCard : Claim7 := { stood := { row := exprsSortedRow, standIns := [], harness := (true, "981e1c02980a8d54a9d35b484abf77a5f558320026f646b4d7e5d79f114f8ce9"), looks := true }, kinds := [], alts := [], laidByText := true, laidKinds := [.data, .pinned], laidTests := true, laidLooks := .later }
def ExprsSortedCardSaid : Prop := Claim7.holds Tryd.pinned (.plain (OpenSpec.ofChange exprsSortedSpec)) exprsSortedCard

/-- THE TIED CARD OF 'duetkeep.ExprsFold'. -/
def exprsFoldCard : Claim7 := { stood := { row := exprsFoldRow, standIns := [], harness := (true, "981e1c02980a8d54a9d35b484abf77a5f558320026f646b4d7e5d79f114f8ce9"), looks := true }, kinds := [], alts := [], laidByText := true, laidKinds := [.data, .pinned], laidTests := true, laidLooks := .later }
def ExprsFoldCardSaid : Prop := Claim7.holds Tryd.pinned (.plain (OpenSpec.ofChange exprsFoldSpec)) exprsFoldCard

/-- THE TIED CARD OF 'duetkeep.ValuesBack'. -/
def valuesBackCard : Claim7 := { stood := { row := valuesBackRow, standIns := [], harness := (true, "981e1c02980a8d54a9d35b484abf77a5f558320026f646b4d7e5d79f114f8ce9"), looks := true }, kinds := [], alts := [], laidByText := true, laidKinds := [.data, .data, .data, .data, .sentinel, .sentinel, .pinned], laidTests := true, laidLooks := .later }
def ValuesBackCardSaid : Prop := Claim7.holds Tryd.pinned (.plain (OpenSpec.ofChange valuesBackSpec)) valuesBackCard

/-- THE TIED CARD OF 'duetkeep.ExprsFree'. -/
def exprsFreeCard : Claim7 := { stood := { row := exprsFreeRow, standIns := [], harness := (true, "981e1c02980a8d54a9d35b484abf77a5f558320026f646b4d7e5d79f114f8ce9"), looks := true }, kinds := [], alts := [], laidByText := true, laidKinds := [.data, .pinned], laidTests := true, laidLooks := .later }
def ExprsFreeCardSaid : Prop := Claim7.holds Tryd.pinned (.plain (OpenSpec.ofChange exprsFreeSpec)) exprsFreeCard

/-- THE TIED CARD OF 'duetkeep.ExprsPut'. -/
def exprsPutCard : Claim7 := { stood := { row := exprsPutRow, standIns := [], harness := (true, "981e1c02980a8d54a9d35b484abf77a5f558320026f646b4d7e5d79f114f8ce9"), looks := true }, kinds := [], alts := [], laidByText := true, laidKinds := [.data, .pinned], laidTests := true, laidLooks := .later }
def ExprsPutCardSaid : Prop := Claim7.holds Tryd.pinned (.plain (OpenSpec.ofChange exprsPutSpec)) exprsPutCard

/-- THE TIED CARD OF 'duetkeep.ExprsBack'. -/
def exprsBackCard : Claim7 := { stood := { row := exprsBackRow, standIns := [], harness := (true, "981e1c02980a8d54a9d35b484abf77a5f558320026f646b4d7e5d79f114f8ce9"), looks := true }, kinds := [], alts := [], laidByText := true, laidKinds := [.data, .data, .data, .data, .sentinel, .sentinel, .pinned], laidTests := true, laidLooks := .later }
def ExprsBackCardSaid : Prop := Claim7.holds Tryd.pinned (.plain (OpenSpec.ofChange exprsBackSpec)) exprsBackCard

/-- THE TIED CARD OF 'duetkeep.ExprsBrackets'. -/
def exprsBracketsCard : Claim7 := { stood := { row := exprsBracketsRow, standIns := [], harness := (true, "981e1c02980a8d54a9d35b484abf77a5f558320026f646b4d7e5d79f114f8ce9"), looks := true }, kinds := [], alts := [], laidByText := true, laidKinds := [.data, .data, .data, .data, .sentinel, .sentinel, .pinned], laidTests := true, laidLooks := .later }
def ExprsBracketsCardSaid : Prop := Claim7.holds Tryd.pinned (.plain (OpenSpec.ofChange exprsBracketsSpec)) exprsBracketsCard

/-- THE SECOND FORM's CARD OF 'duetkeep.ValuesOrder'. -/
def valuesOrderUptoCard : Claim7 := { stood := { row := valuesOrderUptoRow, standIns := [], harness := (true, "981e1c02980a8d54a9d35b484abf77a5f558320026f646b4d7e5d79f114f8ce9"), looks := true }, kinds := [], alts := [], laidByText := true, laidKinds := [.data, .pinned], laidTests := true, laidLooks := .later }
def ValuesOrderUptoCardSaid : Prop := Claim7.holds Tryd.pinned (.plain (OpenSpec.upto valuesOrderSpec)) valuesOrderUptoCard

/-- THE SECOND FORM's CARD OF 'duetkeep.ValuesJoin'. -/
def valuesJoinUptoCard : Claim7 := { stood := { row := valuesJoinUptoRow, standIns := [], harness := (true, "981e1c02980a8d54a9d35b484abf77a5f558320026f646b4d7e5d79f114f8ce9"), looks := true }, kinds := [], alts := [], laidByText := true, laidKinds := [.data, .pinned], laidTests := true, laidLooks := .later }
def ValuesJoinUptoCardSaid : Prop := Claim7.holds Tryd.pinned (.plain (OpenSpec.upto valuesJoinSpec)) valuesJoinUptoCard

/-- THE SECOND FORM's CARD OF 'duetkeep.ExprsSorted'. -/
def exprsSortedUptoCard : Claim7 := { stood := { row := exprsSortedUptoRow, standIns := [], harness := (true, "981e1c02980a8d54a9d35b484abf77a5f558320026f646b4d7e5d79f114f8ce9"), looks := true }, kinds := [], alts := [], laidByText := true, laidKinds := [.data, .pinned], laidTests := true, laidLooks := .later }
def ExprsSortedUptoCardSaid : Prop := Claim7.holds Tryd.pinned (.plain (OpenSpec.upto exprsSortedSpec)) exprsSortedUptoCard

/-- THE SECOND FORM's CARD OF 'duetkeep.ExprsFold'. -/
def exprsFoldUptoCard : Claim7 := { stood := { row := exprsFoldUptoRow, standIns := [], harness := (true, "981e1c02980a8d54a9d35b484abf77a5f558320026f646b4d7e5d79f114f8ce9"), looks := true }, kinds := [], alts := [], laidByText := true, laidKinds := [.data, .pinned], laidTests := true, laidLooks := .later }
def ExprsFoldUptoCardSaid : Prop := Claim7.holds Tryd.pinned (.plain (OpenSpec.upto exprsFoldSpec)) exprsFoldUptoCard

/-- THE SECOND FORM's CARD OF 'duetkeep.ValuesBack'. -/
def valuesBackUptoCard : Claim7 := { stood := { row := valuesBackUptoRow, standIns := [], harness := (true, "981e1c02980a8d54a9d35b484abf77a5f558320026f646b4d7e5d79f114f8ce9"), looks := true }, kinds := [], alts := [], laidByText := true, laidKinds := [.data, .data, .data, .data, .sentinel, .sentinel, .pinned], laidTests := true, laidLooks := .later }
def ValuesBackUptoCardSaid : Prop := Claim7.holds Tryd.pinned (.plain (OpenSpec.upto valuesBackSpec)) valuesBackUptoCard

/-- THE SECOND FORM's CARD OF 'duetkeep.ExprsFree'. -/
def exprsFreeUptoCard : Claim7 := { stood := { row := exprsFreeUptoRow, standIns := [], harness := (true, "981e1c02980a8d54a9d35b484abf77a5f558320026f646b4d7e5d79f114f8ce9"), looks := true }, kinds := [], alts := [], laidByText := true, laidKinds := [.data, .pinned], laidTests := true, laidLooks := .later }
def ExprsFreeUptoCardSaid : Prop := Claim7.holds Tryd.pinned (.plain (OpenSpec.upto exprsFreeSpec)) exprsFreeUptoCard

/-- THE SECOND FORM's CARD OF 'duetkeep.ExprsPut'. -/
def exprsPutUptoCard : Claim7 := { stood := { row := exprsPutUptoRow, standIns := [], harness := (true, "981e1c02980a8d54a9d35b484abf77a5f558320026f646b4d7e5d79f114f8ce9"), looks := true }, kinds := [], alts := [], laidByText := true, laidKinds := [.data, .pinned], laidTests := true, laidLooks := .later }
def ExprsPutUptoCardSaid : Prop := Claim7.holds Tryd.pinned (.plain (OpenSpec.upto exprsPutSpec)) exprsPutUptoCard

/-- THE SECOND FORM's CARD OF 'duetkeep.ExprsBack'. -/
def exprsBackUptoCard : Claim7 := { stood := { row := exprsBackUptoRow, standIns := [], harness := (true, "981e1c02980a8d54a9d35b484abf77a5f558320026f646b4d7e5d79f114f8ce9"), looks := true }, kinds := [], alts := [], laidByText := true, laidKinds := [.data, .data, .data, .data, .sentinel, .sentinel, .pinned], laidTests := true, laidLooks := .later }
def ExprsBackUptoCardSaid : Prop := Claim7.holds Tryd.pinned (.plain (OpenSpec.upto exprsBackSpec)) exprsBackUptoCard

/-- THE SECOND FORM's CARD OF 'duetkeep.ExprsBrackets'. -/
def exprsBracketsUptoCard : Claim7 := { stood := { row := exprsBracketsUptoRow, standIns := [], harness := (true, "981e1c02980a8d54a9d35b484abf77a5f558320026f646b4d7e5d79f114f8ce9"), looks := true }, kinds := [], alts := [], laidByText := true, laidKinds := [.data, .data, .data, .data, .sentinel, .sentinel, .pinned], laidTests := true, laidLooks := .later }
def ExprsBracketsUptoCardSaid : Prop := Claim7.holds Tryd.pinned (.plain (OpenSpec.upto exprsBracketsSpec)) exprsBracketsUptoCard
end Rows
end Go.Proofs.YtiobdkibbhpojaaDoor
