/-
  DERIVED. GIVEN WITH THE SEED: THE CARDS: each row of YtdcplkefmpjppaaGreatDoorRows.lean that lists a variable, with what it lists TIED to the program's text (the seventh form; the later family's looks); each row that meets fmt, with fmt's text TOLD by the authors' own Lean function (tested against real Go, not proved from fmt's source: count such statements apart). THE CARD IS WHAT COUNTS. Prove the row's statement (the work); the ties are given (YtdcplkefmpjppaaGreatDoorTie.lean); close each card by the builder's one call (the guide's Derived/Test/ToyasCard.lean, 'card_holds'). Laid BY PROGRAM, IN A SANDBOX (cutbox-door.mjs). By AI agents, Wed Nov 11 2026. No macro, syntax, notation, axiom, sorry.
-/
import Derived.Test.YtdcplkefmpjppaaGreatDoorRows
import GoSem.ClaimSeven
namespace Go.Proofs.YtdcplkefmpjppaaGreatDoor
namespace Rows

/-- THE TIED CARD OF 'duetkeep.ProjectDual'. -/
def projectDualCard : Claim7 := { stood := { row := projectDualRow, standIns := [], harness := (true, "df816292ae90004b83e95b31db677ea338f4db8d4ebed1796776d1435ea9288a"), looks := false }, kinds := [], alts := [], laidByText := true, laidKinds := [.data, .data, .data, .data, .pinned], laidTests := true, laidLooks := .later }
def ProjectDualCardSaid : Prop := Claim7.holds Tryz.pinned (.plain (OpenSpec.ofChange projectDualSpec)) projectDualCard

/-- THE TIED CARD OF 'duetkeep.ChorusGoes'. -/
def chorusGoesCard : Claim7 := { stood := { row := chorusGoesRow, standIns := [], harness := (true, "df816292ae90004b83e95b31db677ea338f4db8d4ebed1796776d1435ea9288a"), looks := false }, kinds := [], alts := [], laidByText := true, laidKinds := [.data, .pinned], laidTests := true, laidLooks := .later }
def ChorusGoesCardSaid : Prop := Claim7.holds Tryz.pinned (.plain (OpenSpec.ofChange chorusGoesSpec)) chorusGoesCard

/-- THE TIED CARD OF 'duetkeep.CrewTwo'. -/
def crewTwoCard : Claim7 := { stood := { row := crewTwoRow, standIns := [], harness := (true, "df816292ae90004b83e95b31db677ea338f4db8d4ebed1796776d1435ea9288a"), looks := false }, kinds := [], alts := [], laidByText := true, laidKinds := [.data, .data, .data, .data, .data, .pinned], laidTests := true, laidLooks := .later }
def CrewTwoCardSaid : Prop := Claim7.holds Tryz.pinned (.plain (OpenSpec.ofChange crewTwoSpec)) crewTwoCard

/-- THE TIED CARD OF 'duetkeep.CrewSafe'. -/
def crewSafeCard : Claim7 := { stood := { row := crewSafeRow, standIns := [], harness := (true, "df816292ae90004b83e95b31db677ea338f4db8d4ebed1796776d1435ea9288a"), looks := false }, kinds := [], alts := [], laidByText := true, laidKinds := [.data, .data, .data, .data, .data, .pinned], laidTests := true, laidLooks := .later }
def CrewSafeCardSaid : Prop := Claim7.holds Tryz.pinned (.plain (OpenSpec.ofChange crewSafeSpec)) crewSafeCard

/-- THE SECOND FORM's CARD OF 'duetkeep.ProjectDual'. -/
def projectDualUptoCard : Claim7 := { stood := { row := projectDualUptoRow, standIns := [], harness := (true, "df816292ae90004b83e95b31db677ea338f4db8d4ebed1796776d1435ea9288a"), looks := false }, kinds := [], alts := [], laidByText := true, laidKinds := [.data, .data, .data, .data, .pinned], laidTests := true, laidLooks := .later }
def ProjectDualUptoCardSaid : Prop := Claim7.holds Tryz.pinned (.plain (OpenSpec.upto projectDualSpec)) projectDualUptoCard

/-- THE SECOND FORM's CARD OF 'duetkeep.ChorusGoes'. -/
def chorusGoesUptoCard : Claim7 := { stood := { row := chorusGoesUptoRow, standIns := [], harness := (true, "df816292ae90004b83e95b31db677ea338f4db8d4ebed1796776d1435ea9288a"), looks := false }, kinds := [], alts := [], laidByText := true, laidKinds := [.data, .pinned], laidTests := true, laidLooks := .later }
def ChorusGoesUptoCardSaid : Prop := Claim7.holds Tryz.pinned (.plain (OpenSpec.upto chorusGoesSpec)) chorusGoesUptoCard

/-- THE SECOND FORM's CARD OF 'duetkeep.CrewTwo'. -/
def crewTwoUptoCard : Claim7 := { stood := { row := crewTwoUptoRow, standIns := [], harness := (true, "df816292ae90004b83e95b31db677ea338f4db8d4ebed1796776d1435ea9288a"), looks := false }, kinds := [], alts := [], laidByText := true, laidKinds := [.data, .data, .data, .data, .data, .pinned], laidTests := true, laidLooks := .later }
def CrewTwoUptoCardSaid : Prop := Claim7.holds Tryz.pinned (.plain (OpenSpec.upto crewTwoSpec)) crewTwoUptoCard

/-- THE SECOND FORM's CARD OF 'duetkeep.CrewSafe'. -/
def crewSafeUptoCard : Claim7 := { stood := { row := crewSafeUptoRow, standIns := [], harness := (true, "df816292ae90004b83e95b31db677ea338f4db8d4ebed1796776d1435ea9288a"), looks := false }, kinds := [], alts := [], laidByText := true, laidKinds := [.data, .data, .data, .data, .data, .pinned], laidTests := true, laidLooks := .later }
def CrewSafeUptoCardSaid : Prop := Claim7.holds Tryz.pinned (.plain (OpenSpec.upto crewSafeSpec)) crewSafeUptoCard
end Rows
end Go.Proofs.YtdcplkefmpjppaaGreatDoor
