/-
  DERIVED. GIVEN WITH THE SEED: THE CARDS: each row of YtmohkmfimcnfeaaDoorRows.lean that lists a variable, with what it lists TIED to the program's text (the seventh form; the later family's looks); each row that meets fmt, with fmt's text TOLD by the authors' own Lean function (tested against real Go, not proved from fmt's source: count such statements apart). THE CARD IS WHAT COUNTS. Prove the row's statement (the work); the ties are given (YtmohkmfimcnfeaaDoorTie.lean); close each card by the builder's one call (the guide's Derived/Test/ToyasCard.lean, 'card_holds'). Laid BY PROGRAM, IN A SANDBOX (cutbox-door.mjs). By AI agents, Wed Nov 11 2026. No macro, syntax, notation, axiom, sorry.
-/
import Derived.Test.YtmohkmfimcnfeaaDoorRows
import GoSem.ClaimSeven
namespace Go.Proofs.YtmohkmfimcnfeaaDoor
namespace Rows

/-- THE TIED CARD OF 'duetkeep.GlobalBack'. -/
def globalBackCard : Claim7 := { stood := { row := globalBackRow, standIns := [], harness := (true, "8993fad4174bfc7482d0d58187d738abadc3cdf14d0bc67deea80b69d2d6e082"), looks := true }, kinds := [], alts := [], laidByText := true, laidKinds := [.data, .widerDeep, .pinned], laidTests := true, laidLooks := .later }
def GlobalBackCardSaid : Prop := Claim7.holds Tryd.pinned (.plain (OpenSpec.ofChange globalBackSpec)) globalBackCard

/-- THE TIED CARD OF 'duetkeep.GlobalRoles'. -/
def globalRolesCard : Claim7 := { stood := { row := globalRolesRow, standIns := [], harness := (true, "8993fad4174bfc7482d0d58187d738abadc3cdf14d0bc67deea80b69d2d6e082"), looks := true }, kinds := [], alts := [], laidByText := true, laidKinds := [.data, .pinned], laidTests := true, laidLooks := .later }
def GlobalRolesCardSaid : Prop := Claim7.holds Tryd.pinned (.plain (OpenSpec.ofChange globalRolesSpec)) globalRolesCard

/-- THE TIED CARD OF 'duetkeep.ProjectMerge'. -/
def projectMergeCard : Claim7 := { stood := { row := projectMergeRow, standIns := [], harness := (true, "8993fad4174bfc7482d0d58187d738abadc3cdf14d0bc67deea80b69d2d6e082"), looks := true }, kinds := [], alts := [], laidByText := true, laidKinds := [.data, .pinned], laidTests := true, laidLooks := .later }
def ProjectMergeCardSaid : Prop := Claim7.holds Tryd.pinned (.plain (OpenSpec.ofChange projectMergeSpec)) projectMergeCard

/-- THE TIED CARD OF 'duetkeep.ProjectRenamed'. -/
def projectRenamedCard : Claim7 := { stood := { row := projectRenamedRow, standIns := [], harness := (true, "8993fad4174bfc7482d0d58187d738abadc3cdf14d0bc67deea80b69d2d6e082"), looks := true }, kinds := [], alts := [], laidByText := true, laidKinds := [.data, .pinned], laidTests := true, laidLooks := .later }
def ProjectRenamedCardSaid : Prop := Claim7.holds Tryd.pinned (.plain (OpenSpec.ofChange projectRenamedSpec)) projectRenamedCard

/-- THE SECOND FORM's CARD OF 'duetkeep.GlobalBack'. -/
def globalBackUptoCard : Claim7 := { stood := { row := globalBackUptoRow, standIns := [], harness := (true, "8993fad4174bfc7482d0d58187d738abadc3cdf14d0bc67deea80b69d2d6e082"), looks := true }, kinds := [], alts := [], laidByText := true, laidKinds := [.data, .widerDeep, .pinned], laidTests := true, laidLooks := .later }
def GlobalBackUptoCardSaid : Prop := Claim7.holds Tryd.pinned (.plain (OpenSpec.upto globalBackSpec)) globalBackUptoCard

/-- THE SECOND FORM's CARD OF 'duetkeep.GlobalRoles'. -/
def globalRolesUptoCard : Claim7 := { stood := { row := globalRolesUptoRow, standIns := [], harness := (true, "8993fad4174bfc7482d0d58187d738abadc3cdf14d0bc67deea80b69d2d6e082"), looks := true }, kinds := [], alts := [], laidByText := true, laidKinds := [.data, .pinned], laidTests := true, laidLooks := .later }
def GlobalRolesUptoCardSaid : Prop := Claim7.holds Tryd.pinned (.plain (OpenSpec.upto globalRolesSpec)) globalRolesUptoCard

/-- THE SECOND FORM's CARD OF 'duetkeep.ProjectMerge'. -/
def projectMergeUptoCard : Claim7 := { stood := { row := projectMergeUptoRow, standIns := [], harness := (true, "8993fad4174bfc7482d0d58187d738abadc3cdf14d0bc67deea80b69d2d6e082"), looks := true }, kinds := [], alts := [], laidByText := true, laidKinds := [.data, .pinned], laidTests := true, laidLooks := .later }
def ProjectMergeUptoCardSaid : Prop := Claim7.holds Tryd.pinned (.plain (OpenSpec.upto projectMergeSpec)) projectMergeUptoCard

/-- THE SECOND FORM's CARD OF 'duetkeep.ProjectRenamed'. -/
def projectRenamedUptoCard : Claim7 := { stood := { row := projectRenamedUptoRow, standIns := [], harness := (true, "8993fad4174bfc7482d0d58187d738abadc3cdf14d0bc67deea80b69d2d6e082"), looks := true }, kinds := [], alts := [], laidByText := true, laidKinds := [.data, .pinned], laidTests := true, laidLooks := .later }
def ProjectRenamedUptoCardSaid : Prop := Claim7.holds Tryd.pinned (.plain (OpenSpec.upto projectRenamedSpec)) projectRenamedUptoCard
end Rows
end Go.Proofs.YtmohkmfimcnfeaaDoor
