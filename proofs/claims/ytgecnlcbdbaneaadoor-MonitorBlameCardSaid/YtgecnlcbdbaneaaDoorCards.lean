/-
  DERIVED. GIVEN WITH THE SEED: THE CARDS: each row of YtgecnlcbdbaneaaDoorRows.lean that lists a variable, with what it lists TIED to the program's text (the seventh form; the later family's looks); each row that meets fmt, with fmt's text TOLD by the authors' own Lean function (tested against real Go, not proved from fmt's source: count such statements apart). THE CARD IS WHAT COUNTS. Prove the row's statement (the work); the ties are given (YtgecnlcbdbaneaaDoorTie.lean); close each card by the builder's one call (the guide's Derived/Test/ToyasCard.lean, 'card_holds'). Laid BY PROGRAM, IN A SANDBOX (cutbox-door.mjs). By AI agents, Wed Nov 11 2026. No macro, syntax, notation, axiom, sorry.
-/
import Derived.Test.YtgecnlcbdbaneaaDoorRows
import GoSem.ClaimSeven
namespace Go.Proofs.YtgecnlcbdbaneaaDoor
namespace Rows

/-- THE TIED CARD OF 'duetkeep.GraphUnfolds'. -/
def graphUnfoldsCard : Claim7 := { stood := { row := graphUnfoldsRow, standIns := [], harness := (true, "0144fb2af5a16e764d8a1e4f361c58f942babd0b8b12a51a3b211fcd62c74a8f"), looks := false }, kinds := [], alts := [], laidByText := true, laidKinds := [.data, .data, .data, .data, .pinned], laidTests := true, laidLooks := .later }
def GraphUnfoldsCardSaid : Prop := Claim7.holds Tryd.pinned (.plain (OpenSpec.ofChange graphUnfoldsSpec)) graphUnfoldsCard

/-- THE TIED CARD OF 'duetkeep.ComplyDual'. -/
def complyDualCard : Claim7 := { stood := { row := complyDualRow, standIns := [], harness := (true, "0144fb2af5a16e764d8a1e4f361c58f942babd0b8b12a51a3b211fcd62c74a8f"), looks := false }, kinds := [], alts := [], laidByText := true, laidKinds := [.data, .data, .data, .data, .pinned], laidTests := true, laidLooks := .later }
def ComplyDualCardSaid : Prop := Claim7.holds Tryd.pinned (.plain (OpenSpec.ofChange complyDualSpec)) complyDualCard

/-- THE TIED CARD OF 'duetkeep.BelowBound'. -/
def belowBoundCard : Claim7 := { stood := { row := belowBoundRow, standIns := [], harness := (true, "0144fb2af5a16e764d8a1e4f361c58f942babd0b8b12a51a3b211fcd62c74a8f"), looks := false }, kinds := [], alts := [], laidByText := true, laidKinds := [.data, .data, .data, .data, .pinned], laidTests := true, laidLooks := .later }
def BelowBoundCardSaid : Prop := Claim7.holds Tryd.pinned (.plain (OpenSpec.ofChange belowBoundSpec)) belowBoundCard

/-- THE TIED CARD OF 'duetkeep.BelowLattice'. -/
def belowLatticeCard : Claim7 := { stood := { row := belowLatticeRow, standIns := [], harness := (true, "0144fb2af5a16e764d8a1e4f361c58f942babd0b8b12a51a3b211fcd62c74a8f"), looks := false }, kinds := [], alts := [], laidByText := true, laidKinds := [.data, .data, .data, .data, .pinned], laidTests := true, laidLooks := .later }
def BelowLatticeCardSaid : Prop := Claim7.holds Tryd.pinned (.plain (OpenSpec.ofChange belowLatticeSpec)) belowLatticeCard

/-- THE TIED CARD OF 'duetkeep.BelowDuals'. -/
def belowDualsCard : Claim7 := { stood := { row := belowDualsRow, standIns := [], harness := (true, "0144fb2af5a16e764d8a1e4f361c58f942babd0b8b12a51a3b211fcd62c74a8f"), looks := false }, kinds := [], alts := [], laidByText := true, laidKinds := [.data, .data, .data, .data, .pinned], laidTests := true, laidLooks := .later }
def BelowDualsCardSaid : Prop := Claim7.holds Tryd.pinned (.plain (OpenSpec.ofChange belowDualsSpec)) belowDualsCard

/-- THE TIED CARD OF 'duetkeep.ComplyMeet'. -/
def complyMeetCard : Claim7 := { stood := { row := complyMeetRow, standIns := [], harness := (true, "0144fb2af5a16e764d8a1e4f361c58f942babd0b8b12a51a3b211fcd62c74a8f"), looks := false }, kinds := [], alts := [], laidByText := true, laidKinds := [.data, .data, .data, .data, .pinned], laidTests := true, laidLooks := .later }
def ComplyMeetCardSaid : Prop := Claim7.holds Tryd.pinned (.plain (OpenSpec.ofChange complyMeetSpec)) complyMeetCard

/-- THE TIED CARD OF 'duetkeep.MonitorBlame'. -/
def monitorBlameCard : Claim7 := { stood := { row := monitorBlameRow, standIns := [], harness := (true, "0144fb2af5a16e764d8a1e4f361c58f942babd0b8b12a51a3b211fcd62c74a8f"), looks := false }, kinds := [], alts := [], laidByText := true, laidKinds := [.data, .data, .data, .data, .pinned], laidTests := true, laidLooks := .later }
def MonitorBlameCardSaid : Prop := Claim7.holds Tryd.pinned (.plain (OpenSpec.ofChange monitorBlameSpec)) monitorBlameCard

/-- THE TIED CARD OF 'duetkeep.MonitorMirror'. -/
def monitorMirrorCard : Claim7 := { stood := { row := monitorMirrorRow, standIns := [], harness := (true, "0144fb2af5a16e764d8a1e4f361c58f942babd0b8b12a51a3b211fcd62c74a8f"), looks := false }, kinds := [], alts := [], laidByText := true, laidKinds := [.data, .data, .data, .data, .pinned], laidTests := true, laidLooks := .later }
def MonitorMirrorCardSaid : Prop := Claim7.holds Tryd.pinned (.plain (OpenSpec.ofChange monitorMirrorSpec)) monitorMirrorCard

/-- THE TIED CARD OF 'duetkeep.BelowCongruent'. -/
def belowCongruentCard : Claim7 := { stood := { row := belowCongruentRow, standIns := [], harness := (true, "0144fb2af5a16e764d8a1e4f361c58f942babd0b8b12a51a3b211fcd62c74a8f"), looks := false }, kinds := [], alts := [], laidByText := true, laidKinds := [.data, .data, .data, .data, .pinned], laidTests := true, laidLooks := .later }
def BelowCongruentCardSaid : Prop := Claim7.holds Tryd.pinned (.plain (OpenSpec.ofChange belowCongruentSpec)) belowCongruentCard

/-- THE SECOND FORM's CARD OF 'duetkeep.GraphUnfolds'. -/
def graphUnfoldsUptoCard : Claim7 := { stood := { row := graphUnfoldsUptoRow, standIns := [], harness := (true, "0144fb2af5a16e764d8a1e4f361c58f942babd0b8b12a51a3b211fcd62c74a8f"), looks := false }, kinds := [], alts := [], laidByText := true, laidKinds := [.data, .data, .data, .data, .pinned], laidTests := true, laidLooks := .later }
def GraphUnfoldsUptoCardSaid : Prop := Claim7.holds Tryd.pinned (.plain (OpenSpec.upto graphUnfoldsSpec)) graphUnfoldsUptoCard

/-- THE SECOND FORM's CARD OF 'duetkeep.ComplyDual'. -/
def complyDualUptoCard : Claim7 := { stood := { row := complyDualUptoRow, standIns := [], harness := (true, "0144fb2af5a16e764d8a1e4f361c58f942babd0b8b12a51a3b211fcd62c74a8f"), looks := false }, kinds := [], alts := [], laidByText := true, laidKinds := [.data, .data, .data, .data, .pinned], laidTests := true, laidLooks := .later }
def ComplyDualUptoCardSaid : Prop := Claim7.holds Tryd.pinned (.plain (OpenSpec.upto complyDualSpec)) complyDualUptoCard

/-- THE SECOND FORM's CARD OF 'duetkeep.BelowBound'. -/
def belowBoundUptoCard : Claim7 := { stood := { row := belowBoundUptoRow, standIns := [], harness := (true, "0144fb2af5a16e764d8a1e4f361c58f942babd0b8b12a51a3b211fcd62c74a8f"), looks := false }, kinds := [], alts := [], laidByText := true, laidKinds := [.data, .data, .data, .data, .pinned], laidTests := true, laidLooks := .later }
def BelowBoundUptoCardSaid : Prop := Claim7.holds Tryd.pinned (.plain (OpenSpec.upto belowBoundSpec)) belowBoundUptoCard

/-- THE SECOND FORM's CARD OF 'duetkeep.BelowLattice'. -/
def belowLatticeUptoCard : Claim7 := { stood := { row := belowLatticeUptoRow, standIns := [], harness := (true, "0144fb2af5a16e764d8a1e4f361c58f942babd0b8b12a51a3b211fcd62c74a8f"), looks := false }, kinds := [], alts := [], laidByText := true, laidKinds := [.data, .data, .data, .data, .pinned], laidTests := true, laidLooks := .later }
def BelowLatticeUptoCardSaid : Prop := Claim7.holds Tryd.pinned (.plain (OpenSpec.upto belowLatticeSpec)) belowLatticeUptoCard

/-- THE SECOND FORM's CARD OF 'duetkeep.BelowDuals'. -/
def belowDualsUptoCard : Claim7 := { stood := { row := belowDualsUptoRow, standIns := [], harness := (true, "0144fb2af5a16e764d8a1e4f361c58f942babd0b8b12a51a3b211fcd62c74a8f"), looks := false }, kinds := [], alts := [], laidByText := true, laidKinds := [.data, .data, .data, .data, .pinned], laidTests := true, laidLooks := .later }
def BelowDualsUptoCardSaid : Prop := Claim7.holds Tryd.pinned (.plain (OpenSpec.upto belowDualsSpec)) belowDualsUptoCard

/-- THE SECOND FORM's CARD OF 'duetkeep.ComplyMeet'. -/
def complyMeetUptoCard : Claim7 := { stood := { row := complyMeetUptoRow, standIns := [], harness := (true, "0144fb2af5a16e764d8a1e4f361c58f942babd0b8b12a51a3b211fcd62c74a8f"), looks := false }, kinds := [], alts := [], laidByText := true, laidKinds := [.data, .data, .data, .data, .pinned], laidTests := true, laidLooks := .later }
def ComplyMeetUptoCardSaid : Prop := Claim7.holds Tryd.pinned (.plain (OpenSpec.upto complyMeetSpec)) complyMeetUptoCard

/-- THE SECOND FORM's CARD OF 'duetkeep.MonitorBlame'. -/
def monitorBlameUptoCard : Claim7 := { stood := { row := monitorBlameUptoRow, standIns := [], harness := (true, "0144fb2af5a16e764d8a1e4f361c58f942babd0b8b12a51a3b211fcd62c74a8f"), looks := false }, kinds := [], alts := [], laidByText := true, laidKinds := [.data, .data, .data, .data, .pinned], laidTests := true, laidLooks := .later }
def MonitorBlameUptoCardSaid : Prop := Claim7.holds Tryd.pinned (.plain (OpenSpec.upto monitorBlameSpec)) monitorBlameUptoCard

/-- THE SECOND FORM's CARD OF 'duetkeep.MonitorMirror'. -/
def monitorMirrorUptoCard : Claim7 := { stood := { row := monitorMirrorUptoRow, standIns := [], harness := (true, "0144fb2af5a16e764d8a1e4f361c58f942babd0b8b12a51a3b211fcd62c74a8f"), looks := false }, kinds := [], alts := [], laidByText := true, laidKinds := [.data, .data, .data, .data, .pinned], laidTests := true, laidLooks := .later }
def MonitorMirrorUptoCardSaid : Prop := Claim7.holds Tryd.pinned (.plain (OpenSpec.upto monitorMirrorSpec)) monitorMirrorUptoCard

/-- THE SECOND FORM's CARD OF 'duetkeep.BelowCongruent'. -/
def belowCongruentUptoCard : Claim7 := { stood := { row := belowCongruentUptoRow, standIns := [], harness := (true, "0144fb2af5a16e764d8a1e4f361c58f942babd0b8b12a51a3b211fcd62c74a8f"), looks := false }, kinds := [], alts := [], laidByText := true, laidKinds := [.data, .data, .data, .data, .pinned], laidTests := true, laidLooks := .later }
def BelowCongruentUptoCardSaid : Prop := Claim7.holds Tryd.pinned (.plain (OpenSpec.upto belowCongruentSpec)) belowCongruentUptoCard
end Rows
end Go.Proofs.YtgecnlcbdbaneaaDoor
