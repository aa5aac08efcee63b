/-
  NARROWER THAN 'FOR EVERY INPUT', by the rows' own cells (each row's printed sentence says how): GlobalBack: loops, laid · ChorusEnds: loops, laid · ChorusUnfold: loops, laid · ChorusSwap: loops, laid.
  DERIVED. THE GIVEN ROWS OF THIS SEAT. 4 by the template 'for every input the law returns true; each argument reads behind the call as it read before'; 0 by the template 'total and deterministic' (their statements: YtlnmkdbcdcknjaaDoorTotals.lean).
  GIVEN WITH THE SEED: the statements are not yours to turn. If you find one false, say at which input.
  Laid BY PROGRAM, IN A SANDBOX (cutbox-rows.mjs): the forced cells as the released guide's own fill.sh prints them over the translation 9e04d7d5e9968f58… (all of the seat's roots in one cut). By AI agents, Wed Nov 11 2026. No macro, syntax, notation, axiom, sorry.
-/
import Derived.Test.YtlnmkdbcdcknjaaDoorChecked
import GoSem.PinnedTables
import GoSem.Claim
import GoSem.ClaimJoined
import GoSem.ClaimMapViews
import Derived.JoinedTies
import Derived.KernelRfl
namespace Go.Proofs.YtlnmkdbcdcknjaaDoor
/- THE CELL 'sum', in the pinned program and in every row, IS THE sha256 OF THE DUMP (.gsa) THAT YtlnmkdbcdcknjaaDoorProg.lean LOADS. Nothing in Lean hashes anything: it is a label: what it is worth is what the hold of that sum in a sandbox is worth. -/
noncomputable def Tryd.pinned : Pinned := { name := "ytlnmkdbcdcknjaadoor", sum := "9e04d7d5e9968f588a51a5eb0bbdf60dbbc406024fa7f6acc6e8efb5c1f2fcfa", checked := Tryd.checked }
namespace Rows
def none {H : Type} : Left H := { results := [], args := [] }

/- WHAT THE LISTED PACKAGE-LEVEL VARIABLES READ AS WHEN THE CALL BEGINS. Each datum BY PROGRAM (the guide's laid-datum.mjs) off the statement by which the dump's own 'gosem.cut.vars' lays the variable. In a bare row this is a premise. The card (YtlnmkdbcdcknjaaDoorCards.lean) ties it to the program's text. -/
def laid_unicode_utf8_acceptRanges {H : Type} : DataW H := .agg [.agg [.lit (.int .u8 128), .lit (.int .u8 191)], .agg [.lit (.int .u8 160), .lit (.int .u8 191)], .agg [.lit (.int .u8 128), .lit (.int .u8 159)], .agg [.lit (.int .u8 144), .lit (.int .u8 191)], .agg [.lit (.int .u8 128), .lit (.int .u8 143)], .agg [.lit (.int .u8 0), .lit (.int .u8 0)], .agg [.lit (.int .u8 0), .lit (.int .u8 0)], .agg [.lit (.int .u8 0), .lit (.int .u8 0)], .agg [.lit (.int .u8 0), .lit (.int .u8 0)], .agg [.lit (.int .u8 0), .lit (.int .u8 0)], .agg [.lit (.int .u8 0), .lit (.int .u8 0)], .agg [.lit (.int .u8 0), .lit (.int .u8 0)], .agg [.lit (.int .u8 0), .lit (.int .u8 0)], .agg [.lit (.int .u8 0), .lit (.int .u8 0)], .agg [.lit (.int .u8 0), .lit (.int .u8 0)], .agg [.lit (.int .u8 0), .lit (.int .u8 0)]]
def laid_duet_global_sorts {H : Type} : DataW H := .slice [.lit (.string []), .lit (.string [105, 110, 116]), .lit (.string [98, 111, 111, 108]), .lit (.string [116, 101, 120, 116])] []
/-- One of Go's own tables, pinned by name: the form's constant. -/
def laid_unicode_utf8_first : DataW Unit := Go.Pinned.utf8First

/-- 'duetkeep.GlobalBack': WHATEVER THE INPUT: true; the input reads as it did. -/
def globalBackSpec : ChangeSpec := { name := "globalBack", fn := fun _ => fun
  | [d1, d2] => { results := [.lit (.bool true)], args := [d1, d2] }
  | _ => none }
def globalBackRow : OpenClaim := { program := "ytlnmkdbcdcknjaadoor", sum := "9e04d7d5e9968f588a51a5eb0bbdf60dbbc406024fa7f6acc6e8efb5c1f2fcfa", func := "duet/duetkeep.GlobalBack", spec := "globalBack", inPlace := ["internal/bytealg.IndexByteString", "internal/bytealg.IndexString", "internal/abi.NoEscape", "internal/bytealg.MakeNoZero"], unfollowed := true, recurses := true, named := ["unicode/utf8.first", "unicode/utf8.acceptRanges", "duet/global.sorts", "internal/bytealg.MaxLen"], loops := true, plainKeys := false, apart := false, laid := [("unicode/utf8.acceptRanges", laid_unicode_utf8_acceptRanges), ("duet/global.sorts", laid_duet_global_sorts), ("unicode/utf8.first", laid_unicode_utf8_first)] }
def GlobalBackSaid : Prop := globalBackRow.holds Tryd.pinned (OpenSpec.ofChange globalBackSpec)

/-- ITS FALSE NEIGHBOUR: 'it returns false'. Refute it at one input. -/
def globalBackWrong : ChangeSpec := { name := "globalBack", fn := fun _ => fun
  | [d1, d2] => { results := [.lit (.bool false)], args := [d1, d2] }
  | _ => none }
def GlobalBackWrongFalsely : Prop := globalBackRow.holds Tryd.pinned (OpenSpec.ofChange globalBackWrong)

/-- 'duetkeep.ChorusEnds': WHATEVER THE INPUT: true; the input reads as it did. -/
def chorusEndsSpec : ChangeSpec := { name := "chorusEnds", fn := fun _ => fun
  | [d] => { results := [.lit (.bool true)], args := [d] }
  | _ => none }
def chorusEndsRow : OpenClaim := { program := "ytlnmkdbcdcknjaadoor", sum := "9e04d7d5e9968f588a51a5eb0bbdf60dbbc406024fa7f6acc6e8efb5c1f2fcfa", func := "duet/duetkeep.ChorusEnds", spec := "chorusEnds", inPlace := ["internal/bytealg.IndexByteString", "internal/bytealg.IndexString"], recurses := true, named := ["unicode/utf8.first", "unicode/utf8.acceptRanges", "internal/bytealg.MaxLen"], loops := true, plainKeys := false, apart := false, laid := [("unicode/utf8.acceptRanges", laid_unicode_utf8_acceptRanges), ("unicode/utf8.first", laid_unicode_utf8_first)] }
def ChorusEndsSaid : Prop := chorusEndsRow.holds Tryd.pinned (OpenSpec.ofChange chorusEndsSpec)

/-- ITS FALSE NEIGHBOUR: 'it returns false'. Refute it at one input. -/
def chorusEndsWrong : ChangeSpec := { name := "chorusEnds", fn := fun _ => fun
  | [d] => { results := [.lit (.bool false)], args := [d] }
  | _ => none }
def ChorusEndsWrongFalsely : Prop := chorusEndsRow.holds Tryd.pinned (OpenSpec.ofChange chorusEndsWrong)

/-- 'duetkeep.ChorusUnfold': WHATEVER THE INPUT: true; the input reads as it did. -/
def chorusUnfoldSpec : ChangeSpec := { name := "chorusUnfold", fn := fun _ => fun
  | [d] => { results := [.lit (.bool true)], args := [d] }
  | _ => none }
def chorusUnfoldRow : OpenClaim := { program := "ytlnmkdbcdcknjaadoor", sum := "9e04d7d5e9968f588a51a5eb0bbdf60dbbc406024fa7f6acc6e8efb5c1f2fcfa", func := "duet/duetkeep.ChorusUnfold", spec := "chorusUnfold", inPlace := ["internal/bytealg.IndexByteString", "internal/bytealg.IndexString"], recurses := true, named := ["unicode/utf8.first", "unicode/utf8.acceptRanges", "internal/bytealg.MaxLen"], loops := true, plainKeys := false, apart := false, laid := [("unicode/utf8.acceptRanges", laid_unicode_utf8_acceptRanges), ("unicode/utf8.first", laid_unicode_utf8_first)] }
def ChorusUnfoldSaid : Prop := chorusUnfoldRow.holds Tryd.pinned (OpenSpec.ofChange chorusUnfoldSpec)

/-- ITS FALSE NEIGHBOUR: 'it returns false'. Refute it at one input. -/
def chorusUnfoldWrong : ChangeSpec := { name := "chorusUnfold", fn := fun _ => fun
  | [d] => { results := [.lit (.bool false)], args := [d] }
  | _ => none }
def ChorusUnfoldWrongFalsely : Prop := chorusUnfoldRow.holds Tryd.pinned (OpenSpec.ofChange chorusUnfoldWrong)

/-- 'duetkeep.ChorusSwap': WHATEVER THE INPUT: true; the input reads as it did. -/
def chorusSwapSpec : ChangeSpec := { name := "chorusSwap", fn := fun _ => fun
  | [d1, d2, d3] => { results := [.lit (.bool true)], args := [d1, d2, d3] }
  | _ => none }
def chorusSwapRow : OpenClaim := { program := "ytlnmkdbcdcknjaadoor", sum := "9e04d7d5e9968f588a51a5eb0bbdf60dbbc406024fa7f6acc6e8efb5c1f2fcfa", func := "duet/duetkeep.ChorusSwap", spec := "chorusSwap", inPlace := ["internal/bytealg.IndexByteString", "internal/bytealg.IndexString"], recurses := true, named := ["unicode/utf8.first", "unicode/utf8.acceptRanges", "internal/bytealg.MaxLen"], loops := true, plainKeys := false, apart := false, laid := [("unicode/utf8.acceptRanges", laid_unicode_utf8_acceptRanges), ("unicode/utf8.first", laid_unicode_utf8_first)] }
def ChorusSwapSaid : Prop := chorusSwapRow.holds Tryd.pinned (OpenSpec.ofChange chorusSwapSpec)

/-- ITS FALSE NEIGHBOUR: 'it returns false'. Refute it at one input. -/
def chorusSwapWrong : ChangeSpec := { name := "chorusSwap", fn := fun _ => fun
  | [d1, d2, d3] => { results := [.lit (.bool false)], args := [d1, d2, d3] }
  | _ => none }
def ChorusSwapWrongFalsely : Prop := chorusSwapRow.holds Tryd.pinned (OpenSpec.ofChange chorusSwapWrong)

/- THE SECOND FORM. 'bulk': how many values and letters a reading holds, each counted each time it is reached (what is shared counts as often as it is met; a slice's spare places count too). A statement '..UptoSaid' is the law's where the arguments, and the package variables that the reading takes, are together of bulk at most 1048576: NARROWER than '..Said'. Prove '..Said' where nothing that the law and all that it calls make is longer than what came in: it says more and counts as full. Else prove '..UptoSaid'. A law counts once. -/
mutual
def uptoBulk {H : Type} : DataW H → Nat
  | .lit (.string bytes) => bytes.length + 1
  | .lit _ => 1
  | .nil => 1
  | .ptr d => uptoBulk d + 1
  | .slice elems spare => uptoBulkAll elems + uptoBulkAll spare + 1
  | .agg parts => uptoBulkAll parts + 1
  | .iface _ d => uptoBulk d + 1
  | .map entries => uptoBulkEntries entries + 1
  | .held _ => 1
def uptoBulkAll {H : Type} : List (DataW H) → Nat
  | [] => 0
  | d :: r => uptoBulk d + uptoBulkAll r
def uptoBulkEntries {H : Type} : List (Lit × DataW H) → Nat
  | [] => 0
  | x :: r => uptoBulkEntry x + uptoBulkEntries r
def uptoBulkEntry {H : Type} : Lit × DataW H → Nat
  | (.string bytes, d) => bytes.length + uptoBulk d + 1
  | (_, d) => uptoBulk d + 1
 end
def uptoSmall : (H : Type) → List (DataW H) → Bool := fun _ ds => decide (uptoBulkAll ds ≤ 1048576)
def OpenSpec.upto (s : _root_.Go.ChangeSpec) : _root_.Go.OpenSpec := { _root_.Go.OpenSpec.ofChange s with cond := some uptoSmall }

/-- 'duetkeep.GlobalBack', WHERE WHAT IT READS IS OF BULK AT MOST 1048576: true; the input reads as it did. -/
def globalBackUptoRow : OpenClaim := { program := "ytlnmkdbcdcknjaadoor", sum := "9e04d7d5e9968f588a51a5eb0bbdf60dbbc406024fa7f6acc6e8efb5c1f2fcfa", func := "duet/duetkeep.GlobalBack", spec := "globalBack", inPlace := ["internal/bytealg.IndexByteString", "internal/bytealg.IndexString", "internal/abi.NoEscape", "internal/bytealg.MakeNoZero"], unfollowed := true, recurses := true, named := ["unicode/utf8.first", "unicode/utf8.acceptRanges", "duet/global.sorts", "internal/bytealg.MaxLen"], loops := true, plainKeys := false, apart := false, laid := [("unicode/utf8.acceptRanges", laid_unicode_utf8_acceptRanges), ("duet/global.sorts", laid_duet_global_sorts), ("unicode/utf8.first", laid_unicode_utf8_first)], narrowed := true }
def GlobalBackUptoSaid : Prop := globalBackUptoRow.holds Tryd.pinned (OpenSpec.upto globalBackSpec)

/-- 'duetkeep.ChorusEnds', WHERE WHAT IT READS IS OF BULK AT MOST 1048576: true; the input reads as it did. -/
def chorusEndsUptoRow : OpenClaim := { program := "ytlnmkdbcdcknjaadoor", sum := "9e04d7d5e9968f588a51a5eb0bbdf60dbbc406024fa7f6acc6e8efb5c1f2fcfa", func := "duet/duetkeep.ChorusEnds", spec := "chorusEnds", inPlace := ["internal/bytealg.IndexByteString", "internal/bytealg.IndexString"], recurses := true, named := ["unicode/utf8.first", "unicode/utf8.acceptRanges", "internal/bytealg.MaxLen"], loops := true, plainKeys := false, apart := false, laid := [("unicode/utf8.acceptRanges", laid_unicode_utf8_acceptRanges), ("unicode/utf8.first", laid_unicode_utf8_first)], narrowed := true }
def ChorusEndsUptoSaid : Prop := chorusEndsUptoRow.holds Tryd.pinned (OpenSpec.upto chorusEndsSpec)

/-- 'duetkeep.ChorusUnfold', WHERE WHAT IT READS IS OF BULK AT MOST 1048576: true; the input reads as it did. -/
def chorusUnfoldUptoRow : OpenClaim := { program := "ytlnmkdbcdcknjaadoor", sum := "9e04d7d5e9968f588a51a5eb0bbdf60dbbc406024fa7f6acc6e8efb5c1f2fcfa", func := "duet/duetkeep.ChorusUnfold", spec := "chorusUnfold", inPlace := ["internal/bytealg.IndexByteString", "internal/bytealg.IndexString"], recurses := true, named := ["unicode/utf8.first", "unicode/utf8.acceptRanges", "internal/bytealg.MaxLen"], loops := true, plainKeys := false, apart := false, laid := [("unicode/utf8.acceptRanges", laid_unicode_utf8_acceptRanges), ("unicode/utf8.first", laid_unicode_utf8_first)], narrowed := true }
def ChorusUnfoldUptoSaid : Prop := chorusUnfoldUptoRow.holds Tryd.pinned (OpenSpec.upto chorusUnfoldSpec)

/-- 'duetkeep.ChorusSwap', WHERE WHAT IT READS IS OF BULK AT MOST 1048576: true; the input reads as it did. -/
def chorusSwapUptoRow : OpenClaim := { program := "ytlnmkdbcdcknjaadoor", sum := "9e04d7d5e9968f588a51a5eb0bbdf60dbbc406024fa7f6acc6e8efb5c1f2fcfa", func := "duet/duetkeep.ChorusSwap", spec := "chorusSwap", inPlace := ["internal/bytealg.IndexByteString", "internal/bytealg.IndexString"], recurses := true, named := ["unicode/utf8.first", "unicode/utf8.acceptRanges", "internal/bytealg.MaxLen"], loops := true, plainKeys := false, apart := false, laid := [("unicode/utf8.acceptRanges", laid_unicode_utf8_acceptRanges), ("unicode/utf8.first", laid_unicode_utf8_first)], narrowed := true }
def ChorusSwapUptoSaid : Prop := chorusSwapUptoRow.holds Tryd.pinned (OpenSpec.upto chorusSwapSpec)

end Rows
end Go.Proofs.YtlnmkdbcdcknjaaDoor
