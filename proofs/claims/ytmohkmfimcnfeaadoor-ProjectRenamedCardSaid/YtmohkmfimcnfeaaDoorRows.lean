/-
  NARROWER THAN 'FOR EVERY INPUT', by the rows' own cells (each row's printed sentence says how): GlobalBack: loops, laid · GlobalRoles: loops, laid · ProjectMerge: loops, laid · ProjectRenamed: loops, laid.
  DERIVED. THE GIVEN ROWS OF THIS SEAT. 4 by the template 'for every input the law returns true; each argument reads behind the call as it read before'; 0 by the template 'total and deterministic' (their statements: YtmohkmfimcnfeaaDoorTotals.lean).
  GIVEN WITH THE SEED: the statements are not yours to turn. If you find one false, say at which input.
  Laid BY PROGRAM, IN A SANDBOX (cutbox-rows.mjs): the forced cells as the released guide's own fill.sh prints them over the translation 7bb5b8ff3fa9972b… (all of the seat's roots in one cut). By AI agents, Wed Nov 11 2026. No macro, syntax, notation, axiom, sorry.
-/
import Derived.Test.YtmohkmfimcnfeaaDoorChecked
import GoSem.PinnedTables
import GoSem.Claim
import GoSem.ClaimJoined
import GoSem.ClaimMapViews
import Derived.JoinedTies
import Derived.KernelRfl
namespace Go.Proofs.YtmohkmfimcnfeaaDoor
/- THE CELL 'sum', in the pinned program and in every row, IS THE sha256 OF THE DUMP (.gsa) THAT YtmohkmfimcnfeaaDoorProg.lean LOADS. Nothing in Lean hashes anything: it is a label: what it is worth is what the hold of that sum in a sandbox is worth. -/
noncomputable def Tryd.pinned : Pinned := { name := "ytmohkmfimcnfeaadoor", sum := "7bb5b8ff3fa9972b68e25c07374b94eed429122e7772bbf4de07bafaf23bc01b", checked := Tryd.checked }
namespace Rows
def none {H : Type} : Left H := { results := [], args := [] }

/- WHAT THE LISTED PACKAGE-LEVEL VARIABLES READ AS WHEN THE CALL BEGINS. Each datum BY PROGRAM (the guide's laid-datum.mjs) off the statement by which the dump's own 'gosem.cut.vars' lays the variable. In a bare row this is a premise. The card (YtmohkmfimcnfeaaDoorCards.lean) ties it to the program's text. -/
def laid_unicode_utf8_acceptRanges {H : Type} : DataW H := .agg [.agg [.lit (.int .u8 128), .lit (.int .u8 191)], .agg [.lit (.int .u8 160), .lit (.int .u8 191)], .agg [.lit (.int .u8 128), .lit (.int .u8 159)], .agg [.lit (.int .u8 144), .lit (.int .u8 191)], .agg [.lit (.int .u8 128), .lit (.int .u8 143)], .agg [.lit (.int .u8 0), .lit (.int .u8 0)], .agg [.lit (.int .u8 0), .lit (.int .u8 0)], .agg [.lit (.int .u8 0), .lit (.int .u8 0)], .agg [.lit (.int .u8 0), .lit (.int .u8 0)], .agg [.lit (.int .u8 0), .lit (.int .u8 0)], .agg [.lit (.int .u8 0), .lit (.int .u8 0)], .agg [.lit (.int .u8 0), .lit (.int .u8 0)], .agg [.lit (.int .u8 0), .lit (.int .u8 0)], .agg [.lit (.int .u8 0), .lit (.int .u8 0)], .agg [.lit (.int .u8 0), .lit (.int .u8 0)], .agg [.lit (.int .u8 0), .lit (.int .u8 0)]]
def laid_duet_global_sorts {H : Type} : DataW H := .slice [.lit (.string []), .lit (.string [105, 110, 116]), .lit (.string [98, 111, 111, 108]), .lit (.string [116, 101, 120, 116])] []
/-- One of Go's own tables, pinned by name: the form's constant. -/
def laid_unicode_utf8_first : DataW Unit := Go.Pinned.utf8First

/-- 'duetkeep.GlobalBack': WHATEVER THE INPUT: true; the input reads as it did. -/
def globalBackSpec : ChangeSpec := { name := "globalBack", fn := fun _ => fun
  | [d1, d2] => { results := [.lit (.bool true)], args := [d1, d2] }
  | _ => none }
def globalBackRow : OpenClaim := { program := "ytmohkmfimcnfeaadoor", sum := "7bb5b8ff3fa9972b68e25c07374b94eed429122e7772bbf4de07bafaf23bc01b", func := "duet/duetkeep.GlobalBack", spec := "globalBack", inPlace := ["internal/bytealg.IndexByteString", "internal/bytealg.IndexString", "internal/abi.NoEscape", "internal/bytealg.MakeNoZero"], unfollowed := true, recurses := true, named := ["unicode/utf8.first", "unicode/utf8.acceptRanges", "duet/global.sorts", "internal/bytealg.MaxLen"], loops := true, apart := false, laid := [("unicode/utf8.acceptRanges", laid_unicode_utf8_acceptRanges), ("duet/global.sorts", laid_duet_global_sorts), ("unicode/utf8.first", laid_unicode_utf8_first)] }
def GlobalBackSaid : Prop := globalBackRow.holds Tryd.pinned (OpenSpec.ofChange globalBackSpec)

/-- ITS FALSE NEIGHBOUR: 'it returns false'. Refute it at one input. -/
def globalBackWrong : ChangeSpec := { name := "globalBack", fn := fun _ => fun
  | [d1, d2] => { results := [.lit (.bool false)], args := [d1, d2] }
  | _ => none }
def GlobalBackWrongFalsely : Prop := globalBackRow.holds Tryd.pinned (OpenSpec.ofChange globalBackWrong)

/-- 'duetkeep.GlobalRoles': WHATEVER THE INPUT: true; the input reads as it did. -/
def globalRolesSpec : ChangeSpec := { name := "globalRoles", fn := fun _ => fun
  | [d1, d2, d3] => { results := [.lit (.bool true)], args := [d1, d2, d3] }
  | _ => none }
def globalRolesRow : OpenClaim := { program := "ytmohkmfimcnfeaadoor", sum := "7bb5b8ff3fa9972b68e25c07374b94eed429122e7772bbf4de07bafaf23bc01b", func := "duet/duetkeep.GlobalRoles", spec := "globalRoles", inPlace := ["internal/bytealg.IndexByteString", "internal/bytealg.IndexString"], unfollowed := true, recurses := true, named := ["unicode/utf8.first", "unicode/utf8.acceptRanges", "internal/bytealg.MaxLen"], loops := true, apart := false, laid := [("unicode/utf8.acceptRanges", laid_unicode_utf8_acceptRanges), ("unicode/utf8.first", laid_unicode_utf8_first)] }
def GlobalRolesSaid : Prop := globalRolesRow.holds Tryd.pinned (OpenSpec.ofChange globalRolesSpec)

/-- ITS FALSE NEIGHBOUR: 'it returns false'. Refute it at one input. -/
def globalRolesWrong : ChangeSpec := { name := "globalRoles", fn := fun _ => fun
  | [d1, d2, d3] => { results := [.lit (.bool false)], args := [d1, d2, d3] }
  | _ => none }
def GlobalRolesWrongFalsely : Prop := globalRolesRow.holds Tryd.pinned (OpenSpec.ofChange globalRolesWrong)

/-- 'duetkeep.ProjectMerge': WHATEVER THE INPUT: true; the input reads as it did. -/
def projectMergeSpec : ChangeSpec := { name := "projectMerge", fn := fun _ => fun
  | [d1, d2, d3] => { results := [.lit (.bool true)], args := [d1, d2, d3] }
  | _ => none }
def projectMergeRow : OpenClaim := { program := "ytmohkmfimcnfeaadoor", sum := "7bb5b8ff3fa9972b68e25c07374b94eed429122e7772bbf4de07bafaf23bc01b", func := "duet/duetkeep.ProjectMerge", spec := "projectMerge", inPlace := ["internal/bytealg.IndexByteString", "internal/bytealg.IndexString"], unfollowed := true, recurses := true, named := ["unicode/utf8.first", "unicode/utf8.acceptRanges", "internal/bytealg.MaxLen"], loops := true, apart := false, laid := [("unicode/utf8.acceptRanges", laid_unicode_utf8_acceptRanges), ("unicode/utf8.first", laid_unicode_utf8_first)] }
def ProjectMergeSaid : Prop := projectMergeRow.holds Tryd.pinned (OpenSpec.ofChange projectMergeSpec)

/-- ITS FALSE NEIGHBOUR: 'it returns false'. Refute it at one input. -/
def projectMergeWrong : ChangeSpec := { name := "projectMerge", fn := fun _ => fun
  | [d1, d2, d3] => { results := [.lit (.bool false)], args := [d1, d2, d3] }
  | _ => none }
def ProjectMergeWrongFalsely : Prop := projectMergeRow.holds Tryd.pinned (OpenSpec.ofChange projectMergeWrong)

/-- 'duetkeep.ProjectRenamed': WHATEVER THE INPUT: true; the input reads as it did. -/
def projectRenamedSpec : ChangeSpec := { name := "projectRenamed", fn := fun _ => fun
  | [d1, d2] => { results := [.lit (.bool true)], args := [d1, d2] }
  | _ => none }
def projectRenamedRow : OpenClaim := { program := "ytmohkmfimcnfeaadoor", sum := "7bb5b8ff3fa9972b68e25c07374b94eed429122e7772bbf4de07bafaf23bc01b", func := "duet/duetkeep.ProjectRenamed", spec := "projectRenamed", inPlace := ["internal/bytealg.IndexByteString", "internal/bytealg.IndexString"], unfollowed := true, recurses := true, named := ["unicode/utf8.first", "unicode/utf8.acceptRanges", "internal/bytealg.MaxLen"], loops := true, apart := false, laid := [("unicode/utf8.acceptRanges", laid_unicode_utf8_acceptRanges), ("unicode/utf8.first", laid_unicode_utf8_first)] }
def ProjectRenamedSaid : Prop := projectRenamedRow.holds Tryd.pinned (OpenSpec.ofChange projectRenamedSpec)

/-- ITS FALSE NEIGHBOUR: 'it returns false'. Refute it at one input. -/
def projectRenamedWrong : ChangeSpec := { name := "projectRenamed", fn := fun _ => fun
  | [d1, d2] => { results := [.lit (.bool false)], args := [d1, d2] }
  | _ => none }
def ProjectRenamedWrongFalsely : Prop := projectRenamedRow.holds Tryd.pinned (OpenSpec.ofChange projectRenamedWrong)

/- THE SECOND FORM. 'bulk': how many values and letters a reading holds, each counted each time it is reached (what is shared counts as often as it is met; a slice's spare places count too). A statement '..UptoSaid' is the law's where the arguments, and the package variables that the reading takes, are together of bulk at most 1048576: NARROWER than '..Said'. Prove '..Said' where nothing that the law and all that it calls make is longer than what came in: it says more and counts as full. Else prove '..UptoSaid'. A law counts once. -/
mutual
def uptoBulk {H : Type} : DataW H → Nat
  | .lit (.string bytes) => bytes.length + 1
  | .lit _ => 1
  | .nil => 1
  | .ptr d => uptoBulk d + 1
  | .slice elems spare => uptoBulkAll elems + uptoBulkAll spare + 1
  | .agg parts => uptoBulkAll parts + 1
  | .iface _ d => uptoBulk d + 1
  | .map entries => uptoBulkEntries entries + 1
  | .held _ => 1
def uptoBulkAll {H : Type} : List (DataW H) → Nat
  | [] => 0
  | d :: r => uptoBulk d + uptoBulkAll r
def uptoBulkEntries {H : Type} : List (Lit × DataW H) → Nat
  | [] => 0
  | x :: r => uptoBulkEntry x + uptoBulkEntries r
def uptoBulkEntry {H : Type} : Lit × DataW H → Nat
  | (.string bytes, d) => bytes.length + uptoBulk d + 1
  | (_, d) => uptoBulk d + 1
 end
def uptoSmall : (H : Type) → List (DataW H) → Bool := fun _ ds => decide (uptoBulkAll ds ≤ 1048576)
def OpenSpec.upto (s : _root_.Go.ChangeSpec) : _root_.Go.OpenSpec := { _root_.Go.OpenSpec.ofChange s with cond := some uptoSmall }

/-- 'duetkeep.GlobalBack', WHERE WHAT IT READS IS OF BULK AT MOST 1048576: true; the input reads as it did. -/
def globalBackUptoRow : OpenClaim := { program := "ytmohkmfimcnfeaadoor", sum := "7bb5b8ff3fa9972b68e25c07374b94eed429122e7772bbf4de07bafaf23bc01b", func := "duet/duetkeep.GlobalBack", spec := "globalBack", inPlace := ["internal/bytealg.IndexByteString", "internal/bytealg.IndexString", "internal/abi.NoEscape", "internal/bytealg.MakeNoZero"], unfollowed := true, recurses := true, named := ["unicode/utf8.first", "unicode/utf8.acceptRanges", "duet/global.sorts", "internal/bytealg.MaxLen"], loops := true, apart := false, laid := [("unicode/utf8.acceptRanges", laid_unicode_utf8_acceptRanges), ("duet/global.sorts", laid_duet_global_sorts), ("unicode/utf8.first", laid_unicode_utf8_first)], narrowed := true }
def GlobalBackUptoSaid : Prop := globalBackUptoRow.holds Tryd.pinned (OpenSpec.upto globalBackSpec)

/-- 'duetkeep.GlobalRoles', WHERE WHAT IT READS IS OF BULK AT MOST 1048576: true; the input reads as it did. -/
def globalRolesUptoRow : OpenClaim := { program := "ytmohkmfimcnfeaadoor", sum := "7bb5b8ff3fa9972b68e25c07374b94eed429122e7772bbf4de07bafaf23bc01b", func := "duet/duetkeep.GlobalRoles", spec := "globalRoles", inPlace := ["internal/bytealg.IndexByteString", "internal/bytealg.IndexString"], unfollowed := true, recurses := true, named := ["unicode/utf8.first", "unicode/utf8.acceptRanges", "internal/bytealg.MaxLen"], loops := true, apart := false, laid := [("unicode/utf8.acceptRanges", laid_unicode_utf8_acceptRanges), ("unicode/utf8.first", laid_unicode_utf8_first)], narrowed := true }
def GlobalRolesUptoSaid : Prop := globalRolesUptoRow.holds Tryd.pinned (OpenSpec.upto globalRolesSpec)

/-- 'duetkeep.ProjectMerge', WHERE WHAT IT READS IS OF BULK AT MOST 1048576: true; the input reads as it did. -/
def projectMergeUptoRow : OpenClaim := { program := "ytmohkmfimcnfeaadoor", sum := "7bb5b8ff3fa9972b68e25c07374b94eed429122e7772bbf4de07bafaf23bc01b", func := "duet/duetkeep.ProjectMerge", spec := "projectMerge", inPlace := ["internal/bytealg.IndexByteString", "internal/bytealg.IndexString"], unfollowed := true, recurses := true, named := ["unicode/utf8.first", "unicode/utf8.acceptRanges", "internal/bytealg.MaxLen"], loops := true, apart := false, laid := [("unicode/utf8.acceptRanges", laid_unicode_utf8_acceptRanges), ("unicode/utf8.first", laid_unicode_utf8_first)], narrowed := true }
def ProjectMergeUptoSaid : Prop := projectMergeUptoRow.holds Tryd.pinned (OpenSpec.upto projectMergeSpec)

/-- 'duetkeep.ProjectRenamed', WHERE WHAT IT READS IS OF BULK AT MOST 1048576: true; the input reads as it did. -/
def projectRenamedUptoRow : OpenClaim := { program := "ytmohkmfimcnfeaadoor", sum := "7bb5b8ff3fa9972b68e25c07374b94eed429122e7772bbf4de07bafaf23bc01b", func := "duet/duetkeep.ProjectRenamed", spec := "projectRenamed", inPlace := ["internal/bytealg.IndexByteString", "internal/bytealg.IndexString"], unfollowed := true, recurses := true, named := ["unicode/utf8.first", "unicode/utf8.acceptRanges", "internal/bytealg.MaxLen"], loops := true, apart := false, laid := [("unicode/utf8.acceptRanges", laid_unicode_utf8_acceptRanges), ("unicode/utf8.first", laid_unicode_utf8_first)], narrowed := true }
def ProjectRenamedUptoSaid : Prop := projectRenamedUptoRow.holds Tryd.pinned (OpenSpec.upto projectRenamedSpec)

end Rows
end Go.Proofs.YtmohkmfimcnfeaaDoor
