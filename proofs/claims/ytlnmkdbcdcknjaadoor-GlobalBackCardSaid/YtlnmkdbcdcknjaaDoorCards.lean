/-
  DERIVED. GIVEN WITH THE SEED: THE CARDS: each row of YtlnmkdbcdcknjaaDoorRows.lean that lists a variable, with what it lists TIED to the program's text (the seventh form; the later family's looks); each row that meets fmt, with fmt's text TOLD by the authors' own Lean function (tested against real Go, not proved from fmt's source: count such statements apart). THE CARD IS WHAT COUNTS. Prove the row's statement (the work); the ties are given (YtlnmkdbcdcknjaaDoorTie.lean); close each card by the builder's one call (the guide's Derived/Test/ToyasCard.lean, 'card_holds'). Laid BY PROGRAM, IN A SANDBOX (cutbox-door.mjs). By AI agents, Wed Nov 11 2026. No macro, syntax, notation, axiom, sorry.
-/
import Derived.Test.YtlnmkdbcdcknjaaDoorRows
import GoSem.ClaimSeven
namespace Go.Proofs.YtlnmkdbcdcknjaaDoor
namespace Rows

/-- THE TIED CARD OF 'duetkeep.GlobalBack'. -/
def globalBackCard : Claim7 := { stood := { row := globalBackRow, standIns := [], harness := (true, "0665afa188893719566919fdd98df617448456df11a5059a947d3adcd889aa4f"), looks := true }, kinds := [], alts := [], laidByText := true, laidKinds := [.data, .widerDeep, .pinned], laidTests := true, laidLooks := .later }
def GlobalBackCardSaid : Prop := Claim7.holds Tryd.pinned (.plain (OpenSpec.ofChange globalBackSpec)) globalBackCard

/-- THE TIED CARD OF 'duetkeep.ChorusEnds'. -/
def chorusEndsCard : Claim7 := { stood := { row := chorusEndsRow, standIns := [], harness := (true, "0665afa188893719566919fdd98df617448456df11a5059a947d3adcd889aa4f"), looks := true }, kinds := [], alts := [], laidByText := true, laidKinds := [.data, .pinned], laidTests := true, laidLooks := .later }
def ChorusEndsCardSaid : Prop := Claim7.holds Tryd.pinned (.plain (OpenSpec.ofChange chorusEndsSpec)) chorusEndsCard

/-- THE TIED CARD OF 'duetkeep.ChorusUnfold'. -/
def chorusUnfoldCard : Claim7 := { stood := { row := chorusUnfoldRow, standIns := [], harness := (true, "0665afa188893719566919fdd98df617448456df11a5059a947d3adcd889aa4f"), looks := true }, kinds := [], alts := [], laidByText := true, laidKinds := [.data, .pinned], laidTests := true, laidLooks := .later }
def ChorusUnfoldCardSaid : Prop := Claim7.holds Tryd.pinned (.plain (OpenSpec.ofChange chorusUnfoldSpec)) chorusUnfoldCard

/-- THE TIED CARD OF 'duetkeep.ChorusSwap'. -/
def chorusSwapCard : Claim7 := { stood := { row := chorusSwapRow, standIns := [], harness := (true, "0665afa188893719566919fdd98df617448456df11a5059a947d3adcd889aa4f"), looks := true }, kinds := [], alts := [], laidByText := true, laidKinds := [.data, .pinned], laidTests := true, laidLooks := .later }
def ChorusSwapCardSaid : Prop := Claim7.holds Tryd.pinned (.plain (OpenSpec.ofChange chorusSwapSpec)) chorusSwapCard

/-- THE SECOND FORM's CARD OF 'duetkeep.GlobalBack'. -/
def globalBackUptoCard : Claim7 := { stood := { row := globalBackUptoRow, standIns := [], harness := (true, "0665afa188893719566919fdd98df617448456df11a5059a947d3adcd889aa4f"), looks := true }, kinds := [], alts := [], laidByText := true, laidKinds := [.data, .widerDeep, .pinned], laidTests := true, laidLooks := .later }
def GlobalBackUptoCardSaid : Prop := Claim7.holds Tryd.pinned (.plain (OpenSpec.upto globalBackSpec)) globalBackUptoCard

/-- THE SECOND FORM's CARD OF 'duetkeep.ChorusEnds'. -/
def chorusEndsUptoCard : Claim7 := { stood := { row := chorusEndsUptoRow, standIns := [], harness := (true, "0665afa188893719566919fdd98df617448456df11a5059a947d3adcd889aa4f"), looks := true }, kinds := [], alts := [], laidByText := true, laidKinds := [.data, .pinned], laidTests := true, laidLooks := .later }
def ChorusEndsUptoCardSaid : Prop := Claim7.holds Tryd.pinned (.plain (OpenSpec.upto chorusEndsSpec)) chorusEndsUptoCard

/-- THE SECOND FORM's CARD OF 'duetkeep.ChorusUnfold'. -/
def chorusUnfoldUptoCard : Claim7 := { stood := { row := chorusUnfoldUptoRow, standIns := [], harness := (true, "0665afa188893719566919fdd98df617448456df11a5059a947d3adcd889aa4f"), looks := true }, kinds := [], alts := [], laidByText := true, laidKinds := [.data, .pinned], laidTests := true, laidLooks := .later }
def ChorusUnfoldUptoCardSaid : Prop := Claim7.holds Tryd.pinned (.plain (OpenSpec.upto chorusUnfoldSpec)) chorusUnfoldUptoCard

/-- THE SECOND FORM's CARD OF 'duetkeep.ChorusSwap'. -/
def chorusSwapUptoCard : Claim7 := { stood := { row := chorusSwapUptoRow, standIns := [], harness := (true, "0665afa188893719566919fdd98df617448456df11a5059a947d3adcd889aa4f"), looks := true }, kinds := [], alts := [], laidByText := true, laidKinds := [.data, .pinned], laidTests := true, laidLooks := .later }
def ChorusSwapUptoCardSaid : Prop := Claim7.holds Tryd.pinned (.plain (OpenSpec.upto chorusSwapSpec)) chorusSwapUptoCard
end Rows
end Go.Proofs.YtlnmkdbcdcknjaaDoor
