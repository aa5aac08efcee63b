/-
  DERIVED. GIVEN WITH THE SEED: THE CARDS: each row of YtnclmjbkkgghhaaDoorRows.lean that lists a variable, with what it lists TIED to the program's text (the seventh form; the later family's looks); each row that meets fmt, with fmt's text TOLD by the authors' own Lean function (tested against real Go, not proved from fmt's source: count such statements apart). THE CARD IS WHAT COUNTS. Prove the row's statement (the work); the ties are given (YtnclmjbkkgghhaaDoorTie.lean); close each card by the builder's one call (the guide's Derived/Test/ToyasCard.lean, 'card_holds'). Laid BY PROGRAM, IN A SANDBOX (cutbox-door.mjs). By AI agents, Wed Nov 11 2026. No macro, syntax, notation, axiom, sorry.
-/
import Derived.Test.YtnclmjbkkgghhaaDoorRows
import GoSem.ClaimSeven
namespace Go.Proofs.YtnclmjbkkgghhaaDoor
namespace Rows

/-- THE TIED CARD OF 'duetkeep.GraphBekic'. -/
def graphBekicCard : Claim7 := { stood := { row := graphBekicRow, standIns := [], harness := (true, "751f66c57189eef18f5ddaebd62d7a756de028f7aafa85dfb2a8e1633ff914c1"), looks := false }, kinds := [], alts := [], laidByText := true, laidKinds := [.data, .data, .data, .data, .pinned], laidTests := true, laidLooks := .later }
def GraphBekicCardSaid : Prop := Claim7.holds Tryd.pinned (.plain (OpenSpec.ofChange graphBekicSpec)) graphBekicCard

/-- THE TIED CARD OF 'duetkeep.GraphUnique'. -/
def graphUniqueCard : Claim7 := { stood := { row := graphUniqueRow, standIns := [], harness := (true, "751f66c57189eef18f5ddaebd62d7a756de028f7aafa85dfb2a8e1633ff914c1"), looks := false }, kinds := [], alts := [], laidByText := true, laidKinds := [.data, .data, .data, .data, .pinned], laidTests := true, laidLooks := .later }
def GraphUniqueCardSaid : Prop := Claim7.holds Tryd.pinned (.plain (OpenSpec.ofChange graphUniqueSpec)) graphUniqueCard

/-- THE TIED CARD OF 'duetkeep.BelowCongruent'. -/
def belowCongruentCard : Claim7 := { stood := { row := belowCongruentRow, standIns := [], harness := (true, "751f66c57189eef18f5ddaebd62d7a756de028f7aafa85dfb2a8e1633ff914c1"), looks := false }, kinds := [], alts := [], laidByText := true, laidKinds := [.data, .data, .data, .data, .pinned], laidTests := true, laidLooks := .later }
def BelowCongruentCardSaid : Prop := Claim7.holds Tryd.pinned (.plain (OpenSpec.ofChange belowCongruentSpec)) belowCongruentCard

/-- THE TIED CARD OF 'duetkeep.BelowWhy'. -/
def belowWhyCard : Claim7 := { stood := { row := belowWhyRow, standIns := [], harness := (true, "751f66c57189eef18f5ddaebd62d7a756de028f7aafa85dfb2a8e1633ff914c1"), looks := false }, kinds := [], alts := [], laidByText := true, laidKinds := [.data, .data, .data, .data, .pinned], laidTests := true, laidLooks := .later }
def BelowWhyCardSaid : Prop := Claim7.holds Tryd.pinned (.plain (OpenSpec.ofChange belowWhySpec)) belowWhyCard

/-- THE TIED CARD OF 'duetkeep.BelowOrder'. -/
def belowOrderCard : Claim7 := { stood := { row := belowOrderRow, standIns := [], harness := (true, "751f66c57189eef18f5ddaebd62d7a756de028f7aafa85dfb2a8e1633ff914c1"), looks := false }, kinds := [], alts := [], laidByText := true, laidKinds := [.data, .data, .data, .data, .pinned], laidTests := true, laidLooks := .later }
def BelowOrderCardSaid : Prop := Claim7.holds Tryd.pinned (.plain (OpenSpec.ofChange belowOrderSpec)) belowOrderCard

/-- THE TIED CARD OF 'duetkeep.GraphUnfolds'. -/
def graphUnfoldsCard : Claim7 := { stood := { row := graphUnfoldsRow, standIns := [], harness := (true, "751f66c57189eef18f5ddaebd62d7a756de028f7aafa85dfb2a8e1633ff914c1"), looks := false }, kinds := [], alts := [], laidByText := true, laidKinds := [.data, .data, .data, .data, .pinned], laidTests := true, laidLooks := .later }
def GraphUnfoldsCardSaid : Prop := Claim7.holds Tryd.pinned (.plain (OpenSpec.ofChange graphUnfoldsSpec)) graphUnfoldsCard

/-- THE TIED CARD OF 'duetkeep.BelowDual'. -/
def belowDualCard : Claim7 := { stood := { row := belowDualRow, standIns := [], harness := (true, "751f66c57189eef18f5ddaebd62d7a756de028f7aafa85dfb2a8e1633ff914c1"), looks := false }, kinds := [], alts := [], laidByText := true, laidKinds := [.data, .data, .data, .data, .pinned], laidTests := true, laidLooks := .later }
def BelowDualCardSaid : Prop := Claim7.holds Tryd.pinned (.plain (OpenSpec.ofChange belowDualSpec)) belowDualCard

/-- THE TIED CARD OF 'duetkeep.ComplyBelow'. -/
def complyBelowCard : Claim7 := { stood := { row := complyBelowRow, standIns := [], harness := (true, "751f66c57189eef18f5ddaebd62d7a756de028f7aafa85dfb2a8e1633ff914c1"), looks := false }, kinds := [], alts := [], laidByText := true, laidKinds := [.data, .data, .data, .data, .pinned], laidTests := true, laidLooks := .later }
def ComplyBelowCardSaid : Prop := Claim7.holds Tryd.pinned (.plain (OpenSpec.ofChange complyBelowSpec)) complyBelowCard

/-- THE SECOND FORM's CARD OF 'duetkeep.GraphBekic'. -/
def graphBekicUptoCard : Claim7 := { stood := { row := graphBekicUptoRow, standIns := [], harness := (true, "751f66c57189eef18f5ddaebd62d7a756de028f7aafa85dfb2a8e1633ff914c1"), looks := false }, kinds := [], alts := [], laidByText := true, laidKinds := [.data, .data, .data, .data, .pinned], laidTests := true, laidLooks := .later }
def GraphBekicUptoCardSaid : Prop := Claim7.holds Tryd.pinned (.plain (OpenSpec.upto graphBekicSpec)) graphBekicUptoCard

/-- THE SECOND FORM's CARD OF 'duetkeep.GraphUnique'. -/
def graphUniqueUptoCard : Claim7 := { stood := { row := graphUniqueUptoRow, standIns := [], harness := (true, "751f66c57189eef18f5ddaebd62d7a756de028f7aafa85dfb2a8e1633ff914c1"), looks := false }, kinds := [], alts := [], laidByText := true, laidKinds := [.data, .data, .data, .data, .pinned], laidTests := true, laidLooks := .later }
def GraphUniqueUptoCardSaid : Prop := Claim7.holds Tryd.pinned (.plain (OpenSpec.upto graphUniqueSpec)) graphUniqueUptoCard

/-- THE SECOND FORM's CARD OF 'duetkeep.BelowCongruent'. -/
def belowCongruentUptoCard : Claim7 := { stood := { row := belowCongruentUptoRow, standIns := [], harness := (true, "751f66c57189eef18f5ddaebd62d7a756de028f7aafa85dfb2a8e1633ff914c1"), looks := false }, kinds := [], alts := [], laidByText := true, laidKinds := [.data, .data, .data, .data, .pinned], laidTests := true, laidLooks := .later }
def BelowCongruentUptoCardSaid : Prop := Claim7.holds Tryd.pinned (.plain (OpenSpec.upto belowCongruentSpec)) belowCongruentUptoCard

/-- THE SECOND FORM's CARD OF 'duetkeep.BelowWhy'. -/
def belowWhyUptoCard : Claim7 := { stood := { row := belowWhyUptoRow, standIns := [], harness := (true, "751f66c57189eef18f5ddaebd62d7a756de028f7aafa85dfb2a8e1633ff914c1"), looks := false }, kinds := [], alts := [], laidByText := true, laidKinds := [.data, .data, .data, .data, .pinned], laidTests := true, laidLooks := .later }
def BelowWhyUptoCardSaid : Prop := Claim7.holds Tryd.pinned (.plain (OpenSpec.upto belowWhySpec)) belowWhyUptoCard

/-- THE SECOND FORM's CARD OF 'duetkeep.BelowOrder'. -/
def belowOrderUptoCard : Claim7 := { stood := { row := belowOrderUptoRow, standIns := [], harness := (true, "751f66c57189eef18f5ddaebd62d7a756de028f7aafa85dfb2a8e1633ff914c1"), looks := false }, kinds := [], alts := [], laidByText := true, laidKinds := [.data, .data, .data, .data, .pinned], laidTests := true, laidLooks := .later }
def BelowOrderUptoCardSaid : Prop := Claim7.holds Tryd.pinned (.plain (OpenSpec.upto belowOrderSpec)) belowOrderUptoCard

/-- THE SECOND FORM's CARD OF 'duetkeep.GraphUnfolds'. -/
def graphUnfoldsUptoCard : Claim7 := { stood := { row := graphUnfoldsUptoRow, standIns := [], harness := (true, "751f66c57189eef18f5ddaebd62d7a756de028f7aafa85dfb2a8e1633ff914c1"), looks := false }, kinds := [], alts := [], laidByText := true, laidKinds := [.data, .data, .data, .data, .pinned], laidTests := true, laidLooks := .later }
def GraphUnfoldsUptoCardSaid : Prop := Claim7.holds Tryd.pinned (.plain (OpenSpec.upto graphUnfoldsSpec)) graphUnfoldsUptoCard

/-- THE SECOND FORM's CARD OF 'duetkeep.BelowDual'. -/
def belowDualUptoCard : Claim7 := { stood := { row := belowDualUptoRow, standIns := [], harness := (true, "751f66c57189eef18f5ddaebd62d7a756de028f7aafa85dfb2a8e1633ff914c1"), looks := false }, kinds := [], alts := [], laidByText := true, laidKinds := [.data, .data, .data, .data, .pinned], laidTests := true, laidLooks := .later }
def BelowDualUptoCardSaid : Prop := Claim7.holds Tryd.pinned (.plain (OpenSpec.upto belowDualSpec)) belowDualUptoCard

/-- THE SECOND FORM's CARD OF 'duetkeep.ComplyBelow'. -/
def complyBelowUptoCard : Claim7 := { stood := { row := complyBelowUptoRow, standIns := [], harness := (true, "751f66c57189eef18f5ddaebd62d7a756de028f7aafa85dfb2a8e1633ff914c1"), looks := false }, kinds := [], alts := [], laidByText := true, laidKinds := [.data, .data, .data, .data, .pinned], laidTests := true, laidLooks := .later }
def ComplyBelowUptoCardSaid : Prop := Claim7.holds Tryd.pinned (.plain (OpenSpec.upto complyBelowSpec)) complyBelowUptoCard
end Rows
end Go.Proofs.YtnclmjbkkgghhaaDoor
