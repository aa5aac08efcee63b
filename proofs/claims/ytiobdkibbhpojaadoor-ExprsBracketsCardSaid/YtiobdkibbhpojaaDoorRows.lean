/-
  NARROWER THAN 'FOR EVERY INPUT', by the rows' own cells (each row's printed sentence says how): ValuesOrder: laid · ValuesJoin: laid · ExprsSorted: loops, laid · ExprsFold: loops, laid · ValuesBack: laid · ExprsFree: loops, laid · ExprsPut: loops, laid · ExprsBack: loops, laid · ExprsBrackets: laid.
  DERIVED. THE GIVEN ROWS OF THIS SEAT. 9 by the template 'for every input the law returns true; each argument reads behind the call as it read before'; 0 by the template 'total and deterministic' (their statements: YtiobdkibbhpojaaDoorTotals.lean).
  GIVEN WITH THE SEED: the statements are not yours to turn. If you find one false, say at which input.
  Laid BY PROGRAM, IN A SANDBOX (cutbox-rows.mjs): the forced cells as the released guide's own fill.sh prints them over the translation 0fc1e9eea01a60ec… (all of the seat's roots in one cut). By AI agents, Wed Nov 11 2026. No macro, syntax, notation, axiom, sorry.
-/
import Derived.Test.YtiobdkibbhpojaaDoorChecked
import GoSem.PinnedTables
import GoSem.Claim
import GoSem.ClaimJoined
import GoSem.ClaimMapViews
import Derived.JoinedTies
import Derived.KernelRfl
namespace Go.Proofs.YtiobdkibbhpojaaDoor
/- THE CELL 'sum', in the pinned program and in every row, IS THE sha256 OF THE DUMP (.gsa) THAT YtiobdkibbhpojaaDoorProg.lean LOADS. Nothing in Lean hashes anything: it is a label: what it is worth is what the hold of that sum in a sandbox is worth. -/
noncomputable def Tryd.pinned : Pinned := { name := "ytiobdkibbhpojaadoor", sum := "0fc1e9eea01a60ec6df932c49074f1c6a75eeb3e34ce82e50d0e81cb5c795a3f", checked := Tryd.checked }
namespace Rows
def none {H : Type} : Left H := { results := [], args := [] }

/- WHAT THE LISTED PACKAGE-LEVEL VARIABLES READ AS WHEN THE CALL BEGINS. Each datum BY PROGRAM (the guide's laid-datum.mjs) off the statement by which the dump's own 'gosem.cut.vars' lays the variable. In a bare row this is a premise. The card (YtiobdkibbhpojaaDoorCards.lean) ties it to the program's text. -/
def laid_unicode_utf8_acceptRanges {H : Type} : DataW H := .agg [.agg [.lit (.int .u8 128), .lit (.int .u8 191)], .agg [.lit (.int .u8 160), .lit (.int .u8 191)], .agg [.lit (.int .u8 128), .lit (.int .u8 159)], .agg [.lit (.int .u8 144), .lit (.int .u8 191)], .agg [.lit (.int .u8 128), .lit (.int .u8 143)], .agg [.lit (.int .u8 0), .lit (.int .u8 0)], .agg [.lit (.int .u8 0), .lit (.int .u8 0)], .agg [.lit (.int .u8 0), .lit (.int .u8 0)], .agg [.lit (.int .u8 0), .lit (.int .u8 0)], .agg [.lit (.int .u8 0), .lit (.int .u8 0)], .agg [.lit (.int .u8 0), .lit (.int .u8 0)], .agg [.lit (.int .u8 0), .lit (.int .u8 0)], .agg [.lit (.int .u8 0), .lit (.int .u8 0)], .agg [.lit (.int .u8 0), .lit (.int .u8 0)], .agg [.lit (.int .u8 0), .lit (.int .u8 0)], .agg [.lit (.int .u8 0), .lit (.int .u8 0)]]
/-- One of Go's own tables, pinned by name: the form's constant. -/
def laid_unicode_utf8_first : DataW Unit := Go.Pinned.utf8First
def laid_math_bits_deBruijn32tab {H : Type} : DataW H := .agg [.lit (.int .u8 0), .lit (.int .u8 1), .lit (.int .u8 28), .lit (.int .u8 2), .lit (.int .u8 29), .lit (.int .u8 14), .lit (.int .u8 24), .lit (.int .u8 3), .lit (.int .u8 30), .lit (.int .u8 22), .lit (.int .u8 20), .lit (.int .u8 15), .lit (.int .u8 25), .lit (.int .u8 17), .lit (.int .u8 4), .lit (.int .u8 8), .lit (.int .u8 31), .lit (.int .u8 27), .lit (.int .u8 13), .lit (.int .u8 23), .lit (.int .u8 21), .lit (.int .u8 19), .lit (.int .u8 16), .lit (.int .u8 7), .lit (.int .u8 26), .lit (.int .u8 12), .lit (.int .u8 18), .lit (.int .u8 6), .lit (.int .u8 11), .lit (.int .u8 5), .lit (.int .u8 10), .lit (.int .u8 9)]
def laid_math_bits_deBruijn64tab {H : Type} : DataW H := .agg [.lit (.int .u8 0), .lit (.int .u8 1), .lit (.int .u8 56), .lit (.int .u8 2), .lit (.int .u8 57), .lit (.int .u8 49), .lit (.int .u8 28), .lit (.int .u8 3), .lit (.int .u8 61), .lit (.int .u8 58), .lit (.int .u8 42), .lit (.int .u8 50), .lit (.int .u8 38), .lit (.int .u8 29), .lit (.int .u8 17), .lit (.int .u8 4), .lit (.int .u8 62), .lit (.int .u8 47), .lit (.int .u8 59), .lit (.int .u8 36), .lit (.int .u8 45), .lit (.int .u8 43), .lit (.int .u8 51), .lit (.int .u8 22), .lit (.int .u8 53), .lit (.int .u8 39), .lit (.int .u8 33), .lit (.int .u8 30), .lit (.int .u8 24), .lit (.int .u8 18), .lit (.int .u8 12), .lit (.int .u8 5), .lit (.int .u8 63), .lit (.int .u8 55), .lit (.int .u8 48), .lit (.int .u8 27), .lit (.int .u8 60), .lit (.int .u8 41), .lit (.int .u8 37), .lit (.int .u8 16), .lit (.int .u8 46), .lit (.int .u8 35), .lit (.int .u8 44), .lit (.int .u8 21), .lit (.int .u8 52), .lit (.int .u8 32), .lit (.int .u8 23), .lit (.int .u8 11), .lit (.int .u8 54), .lit (.int .u8 26), .lit (.int .u8 40), .lit (.int .u8 15), .lit (.int .u8 34), .lit (.int .u8 20), .lit (.int .u8 31), .lit (.int .u8 10), .lit (.int .u8 25), .lit (.int .u8 14), .lit (.int .u8 19), .lit (.int .u8 9), .lit (.int .u8 13), .lit (.int .u8 8), .lit (.int .u8 7), .lit (.int .u8 6)]
def laid_internal_strconv_uint64pow10 {H : Type} : DataW H := .agg [.lit (.int .u64 1), .lit (.int .u64 10), .lit (.int .u64 100), .lit (.int .u64 1000), .lit (.int .u64 10000), .lit (.int .u64 100000), .lit (.int .u64 1000000), .lit (.int .u64 10000000), .lit (.int .u64 100000000), .lit (.int .u64 1000000000), .lit (.int .u64 10000000000), .lit (.int .u64 100000000000), .lit (.int .u64 1000000000000), .lit (.int .u64 10000000000000), .lit (.int .u64 100000000000000), .lit (.int .u64 1000000000000000), .lit (.int .u64 10000000000000000), .lit (.int .u64 100000000000000000), .lit (.int .u64 1000000000000000000), .lit (.int .u64 10000000000000000000)]
def laid_strconv_ErrRange {H : Type} : DataW H := .iface "*errors.errorString" (.ptr (.agg [.lit (.string [118, 97, 108, 117, 101, 32, 111, 117, 116, 32, 111, 102, 32, 114, 97, 110, 103, 101])]))
def laid_strconv_ErrSyntax {H : Type} : DataW H := .iface "*errors.errorString" (.ptr (.agg [.lit (.string [105, 110, 118, 97, 108, 105, 100, 32, 115, 121, 110, 116, 97, 120])]))

/-- 'duetkeep.ValuesOrder': WHATEVER THE INPUT: true; the input reads as it did. -/
def valuesOrderSpec : ChangeSpec := { name := "valuesOrder", fn := fun _ => fun
  | [d1, d2, d3] => { results := [.lit (.bool true)], args := [d1, d2, d3] }
  | _ => none }
def valuesOrderRow : OpenClaim := { program := "ytiobdkibbhpojaadoor", sum := "0fc1e9eea01a60ec6df932c49074f1c6a75eeb3e34ce82e50d0e81cb5c795a3f", func := "duet/duetkeep.ValuesOrder", spec := "valuesOrder", named := ["unicode/utf8.first", "unicode/utf8.acceptRanges"], apart := false, laid := [("unicode/utf8.acceptRanges", laid_unicode_utf8_acceptRanges), ("unicode/utf8.first", laid_unicode_utf8_first)] }
def ValuesOrderSaid : Prop := valuesOrderRow.holds Tryd.pinned (OpenSpec.ofChange valuesOrderSpec)

/-- ITS FALSE NEIGHBOUR: 'it returns false'. Refute it at one input. -/
def valuesOrderWrong : ChangeSpec := { name := "valuesOrder", fn := fun _ => fun
  | [d1, d2, d3] => { results := [.lit (.bool false)], args := [d1, d2, d3] }
  | _ => none }
def ValuesOrderWrongFalsely : Prop := valuesOrderRow.holds Tryd.pinned (OpenSpec.ofChange valuesOrderWrong)

/-- 'duetkeep.ValuesJoin': WHATEVER THE INPUT: true; the input reads as it did. -/
def valuesJoinSpec : ChangeSpec := { name := "valuesJoin", fn := fun _ => fun
  | [d1, d2] => { results := [.lit (.bool true)], args := [d1, d2] }
  | _ => none }
def valuesJoinRow : OpenClaim := { program := "ytiobdkibbhpojaadoor", sum := "0fc1e9eea01a60ec6df932c49074f1c6a75eeb3e34ce82e50d0e81cb5c795a3f", func := "duet/duetkeep.ValuesJoin", spec := "valuesJoin", named := ["unicode/utf8.first", "unicode/utf8.acceptRanges"], apart := false, laid := [("unicode/utf8.acceptRanges", laid_unicode_utf8_acceptRanges), ("unicode/utf8.first", laid_unicode_utf8_first)] }
def ValuesJoinSaid : Prop := valuesJoinRow.holds Tryd.pinned (OpenSpec.ofChange valuesJoinSpec)

/-- ITS FALSE NEIGHBOUR: 'it returns false'. Refute it at one input. -/
def valuesJoinWrong : ChangeSpec := { name := "valuesJoin", fn := fun _ => fun
  | [d1, d2] => { results := [.lit (.bool false)], args := [d1, d2] }
  | _ => none }
def ValuesJoinWrongFalsely : Prop := valuesJoinRow.holds Tryd.pinned (OpenSpec.ofChange valuesJoinWrong)

/-- 'duetkeep.ExprsSorted': WHATEVER THE INPUT: true; the input reads as it did. -/
def exprsSortedSpec : ChangeSpec := { name := "exprsSorted", fn := fun _ => fun
  | [d1, d2] => { results := [.lit (.bool true)], args := [d1, d2] }
  | _ => none }
def exprsSortedRow : OpenClaim := { program := "ytiobdkibbhpojaadoor", sum := "0fc1e9eea01a60ec6df932c49074f1c6a75eeb3e34ce82e50d0e81cb5c795a3f", func := "duet/duetkeep.ExprsSorted", spec := "exprsSorted", inPlace := ["internal/bytealg.IndexByteString", "internal/bytealg.IndexString"], unfollowed := true, recurses := true, named := ["unicode/utf8.first", "unicode/utf8.acceptRanges", "internal/bytealg.MaxLen"], loops := true, apart := false, laid := [("unicode/utf8.acceptRanges", laid_unicode_utf8_acceptRanges), ("unicode/utf8.first", laid_unicode_utf8_first)] }
def ExprsSortedSaid : Prop := exprsSortedRow.holds Tryd.pinned (OpenSpec.ofChange exprsSortedSpec)

/-- ITS FALSE NEIGHBOUR: 'it returns false'. Refute it at one input. -/
def exprsSortedWrong : ChangeSpec := { name := "exprsSorted", fn := fun _ => fun
  | [d1, d2] => { results := [.lit (.bool false)], args := [d1, d2] }
  | _ => none }
def ExprsSortedWrongFalsely : Prop := exprsSortedRow.holds Tryd.pinned (OpenSpec.ofChange exprsSortedWrong)

/-- 'duetkeep.ExprsFold': WHATEVER THE INPUT: true; the input reads as it did. -/
def exprsFoldSpec : ChangeSpec := { name := "exprsFold", fn := fun _ => fun
  | [d1, d2] => { results := [.lit (.bool true)], args := [d1, d2] }
  | _ => none }
def exprsFoldRow : OpenClaim := { program := "ytiobdkibbhpojaadoor", sum := "0fc1e9eea01a60ec6df932c49074f1c6a75eeb3e34ce82e50d0e81cb5c795a3f", func := "duet/duetkeep.ExprsFold", spec := "exprsFold", inPlace := ["internal/bytealg.IndexByteString", "internal/bytealg.IndexString"], unfollowed := true, recurses := true, named := ["unicode/utf8.first", "unicode/utf8.acceptRanges", "internal/bytealg.MaxLen"], loops := true, apart := false, laid := [("unicode/utf8.acceptRanges", laid_unicode_utf8_acceptRanges), ("unicode/utf8.first", laid_unicode_utf8_first)] }
def ExprsFoldSaid : Prop := exprsFoldRow.holds Tryd.pinned (OpenSpec.ofChange exprsFoldSpec)

/-- ITS FALSE NEIGHBOUR: 'it returns false'. Refute it at one input. -/
def exprsFoldWrong : ChangeSpec := { name := "exprsFold", fn := fun _ => fun
  | [d1, d2] => { results := [.lit (.bool false)], args := [d1, d2] }
  | _ => none }
def ExprsFoldWrongFalsely : Prop := exprsFoldRow.holds Tryd.pinned (OpenSpec.ofChange exprsFoldWrong)

/-- 'duetkeep.ValuesBack': WHATEVER THE INPUT: true; the input reads as it did. -/
def valuesBackSpec : ChangeSpec := { name := "valuesBack", fn := fun _ => fun
  | [d1, d2] => { results := [.lit (.bool true)], args := [d1, d2] }
  | _ => none }
def valuesBackRow : OpenClaim := { program := "ytiobdkibbhpojaadoor", sum := "0fc1e9eea01a60ec6df932c49074f1c6a75eeb3e34ce82e50d0e81cb5c795a3f", func := "duet/duetkeep.ValuesBack", spec := "valuesBack", inPlace := ["internal/abi.NoEscape", "internal/bytealg.IndexByteString"], named := ["unicode/utf8.first", "unicode/utf8.acceptRanges", "internal/strconv.uint64pow10", "math/bits.deBruijn32tab", "math/bits.deBruijn64tab", "strconv.ErrSyntax", "strconv.ErrRange"], apart := false, laid := [("math/bits.deBruijn32tab", laid_math_bits_deBruijn32tab), ("math/bits.deBruijn64tab", laid_math_bits_deBruijn64tab), ("internal/strconv.uint64pow10", laid_internal_strconv_uint64pow10), ("unicode/utf8.acceptRanges", laid_unicode_utf8_acceptRanges), ("strconv.ErrRange", laid_strconv_ErrRange), ("strconv.ErrSyntax", laid_strconv_ErrSyntax), ("unicode/utf8.first", laid_unicode_utf8_first)] }
def ValuesBackSaid : Prop := valuesBackRow.holds Tryd.pinned (OpenSpec.ofChange valuesBackSpec)

/-- ITS FALSE NEIGHBOUR: 'it returns false'. Refute it at one input. -/
def valuesBackWrong : ChangeSpec := { name := "valuesBack", fn := fun _ => fun
  | [d1, d2] => { results := [.lit (.bool false)], args := [d1, d2] }
  | _ => none }
def ValuesBackWrongFalsely : Prop := valuesBackRow.holds Tryd.pinned (OpenSpec.ofChange valuesBackWrong)

/-- 'duetkeep.ExprsFree': WHATEVER THE INPUT: true; the input reads as it did. -/
def exprsFreeSpec : ChangeSpec := { name := "exprsFree", fn := fun _ => fun
  | [d1, d2, d3] => { results := [.lit (.bool true)], args := [d1, d2, d3] }
  | _ => none }
def exprsFreeRow : OpenClaim := { program := "ytiobdkibbhpojaadoor", sum := "0fc1e9eea01a60ec6df932c49074f1c6a75eeb3e34ce82e50d0e81cb5c795a3f", func := "duet/duetkeep.ExprsFree", spec := "exprsFree", inPlace := ["internal/bytealg.IndexByteString", "internal/bytealg.IndexString"], unfollowed := true, recurses := true, named := ["unicode/utf8.first", "unicode/utf8.acceptRanges", "internal/bytealg.MaxLen"], loops := true, apart := false, laid := [("unicode/utf8.acceptRanges", laid_unicode_utf8_acceptRanges), ("unicode/utf8.first", laid_unicode_utf8_first)] }
def ExprsFreeSaid : Prop := exprsFreeRow.holds Tryd.pinned (OpenSpec.ofChange exprsFreeSpec)

/-- ITS FALSE NEIGHBOUR: 'it returns false'. Refute it at one input. -/
def exprsFreeWrong : ChangeSpec := { name := "exprsFree", fn := fun _ => fun
  | [d1, d2, d3] => { results := [.lit (.bool false)], args := [d1, d2, d3] }
  | _ => none }
def ExprsFreeWrongFalsely : Prop := exprsFreeRow.holds Tryd.pinned (OpenSpec.ofChange exprsFreeWrong)

/-- 'duetkeep.ExprsPut': WHATEVER THE INPUT: true; the input reads as it did. -/
def exprsPutSpec : ChangeSpec := { name := "exprsPut", fn := fun _ => fun
  | [d1, d2, d3, d4] => { results := [.lit (.bool true)], args := [d1, d2, d3, d4] }
  | _ => none }
def exprsPutRow : OpenClaim := { program := "ytiobdkibbhpojaadoor", sum := "0fc1e9eea01a60ec6df932c49074f1c6a75eeb3e34ce82e50d0e81cb5c795a3f", func := "duet/duetkeep.ExprsPut", spec := "exprsPut", inPlace := ["internal/bytealg.IndexByteString", "internal/bytealg.IndexString"], unfollowed := true, recurses := true, named := ["unicode/utf8.first", "unicode/utf8.acceptRanges", "internal/bytealg.MaxLen"], loops := true, apart := false, laid := [("unicode/utf8.acceptRanges", laid_unicode_utf8_acceptRanges), ("unicode/utf8.first", laid_unicode_utf8_first)] }
def ExprsPutSaid : Prop := exprsPutRow.holds Tryd.pinned (OpenSpec.ofChange exprsPutSpec)

/-- ITS FALSE NEIGHBOUR: 'it returns false'. Refute it at one input. -/
def exprsPutWrong : ChangeSpec := { name := "exprsPut", fn := fun _ => fun
  | [d1, d2, d3, d4] => { results := [.lit (.bool false)], args := [d1, d2, d3, d4] }
  | _ => none }
def ExprsPutWrongFalsely : Prop := exprsPutRow.holds Tryd.pinned (OpenSpec.ofChange exprsPutWrong)

/-- 'duetkeep.ExprsBack': WHATEVER THE INPUT: true; the input reads as it did. -/
def exprsBackSpec : ChangeSpec := { name := "exprsBack", fn := fun _ => fun
  | [d1, d2] => { results := [.lit (.bool true)], args := [d1, d2] }
  | _ => none }
def exprsBackRow : OpenClaim := { program := "ytiobdkibbhpojaadoor", sum := "0fc1e9eea01a60ec6df932c49074f1c6a75eeb3e34ce82e50d0e81cb5c795a3f", func := "duet/duetkeep.ExprsBack", spec := "exprsBack", inPlace := ["internal/bytealg.IndexByteString", "internal/bytealg.IndexString", "internal/abi.NoEscape"], unfollowed := true, recurses := true, named := ["unicode/utf8.first", "unicode/utf8.acceptRanges", "internal/strconv.uint64pow10", "math/bits.deBruijn32tab", "math/bits.deBruijn64tab", "strconv.ErrSyntax", "strconv.ErrRange", "internal/bytealg.MaxLen"], loops := true, apart := false, laid := [("math/bits.deBruijn32tab", laid_math_bits_deBruijn32tab), ("math/bits.deBruijn64tab", laid_math_bits_deBruijn64tab), ("internal/strconv.uint64pow10", laid_internal_strconv_uint64pow10), ("unicode/utf8.acceptRanges", laid_unicode_utf8_acceptRanges), ("strconv.ErrRange", laid_strconv_ErrRange), ("strconv.ErrSyntax", laid_strconv_ErrSyntax), ("unicode/utf8.first", laid_unicode_utf8_first)] }
def ExprsBackSaid : Prop := exprsBackRow.holds Tryd.pinned (OpenSpec.ofChange exprsBackSpec)

/-- ITS FALSE NEIGHBOUR: 'it returns false'. Refute it at one input. -/
def exprsBackWrong : ChangeSpec := { name := "exprsBack", fn := fun _ => fun
  | [d1, d2] => { results := [.lit (.bool false)], args := [d1, d2] }
  | _ => none }
def ExprsBackWrongFalsely : Prop := exprsBackRow.holds Tryd.pinned (OpenSpec.ofChange exprsBackWrong)

/-- 'duetkeep.ExprsBrackets': WHATEVER THE INPUT: true; the input reads as it did. -/
def exprsBracketsSpec : ChangeSpec := { name := "exprsBrackets", fn := fun _ => fun
  | [d1, d2] => { results := [.lit (.bool true)], args := [d1, d2] }
  | _ => none }
def exprsBracketsRow : OpenClaim := { program := "ytiobdkibbhpojaadoor", sum := "0fc1e9eea01a60ec6df932c49074f1c6a75eeb3e34ce82e50d0e81cb5c795a3f", func := "duet/duetkeep.ExprsBrackets", spec := "exprsBrackets", inPlace := ["internal/bytealg.IndexByteString", "internal/bytealg.IndexString", "internal/abi.NoEscape", "internal/bytealg.MakeNoZero"], unfollowed := true, recurses := true, named := ["unicode/utf8.first", "unicode/utf8.acceptRanges", "strconv.ErrSyntax", "strconv.ErrRange", "internal/strconv.uint64pow10", "math/bits.deBruijn32tab", "math/bits.deBruijn64tab", "internal/bytealg.MaxLen"], apart := false, laid := [("math/bits.deBruijn32tab", laid_math_bits_deBruijn32tab), ("math/bits.deBruijn64tab", laid_math_bits_deBruijn64tab), ("internal/strconv.uint64pow10", laid_internal_strconv_uint64pow10), ("unicode/utf8.acceptRanges", laid_unicode_utf8_acceptRanges), ("strconv.ErrRange", laid_strconv_ErrRange), ("strconv.ErrSyntax", laid_strconv_ErrSyntax), ("unicode/utf8.first", laid_unicode_utf8_first)] }
def ExprsBracketsSaid : Prop := exprsBracketsRow.holds Tryd.pinned (OpenSpec.ofChange exprsBracketsSpec)

/-- ITS FALSE NEIGHBOUR: 'it returns false'. Refute it at one input. -/
def exprsBracketsWrong : ChangeSpec := { name := "exprsBrackets", fn := fun _ => fun
  | [d1, d2] => { results := [.lit (.bool false)], args := [d1, d2] }
  | _ => none }
def ExprsBracketsWrongFalsely : Prop := exprsBracketsRow.holds Tryd.pinned (OpenSpec.ofChange exprsBracketsWrong)

/- THE SECOND FORM. 'bulk': how many values and letters a reading holds, each counted each time it is reached (what is shared counts as often as it is met; a slice's spare places count too). A statement '..UptoSaid' is the law's where the arguments, and the package variables that the reading takes, are together of bulk at most 1048576: NARROWER than '..Said'. Prove '..Said' where nothing that the law and all that it calls make is longer than what came in: it says more and counts as full. Else prove '..UptoSaid'. A law counts once. -/
mutual
def uptoBulk {H : Type} : DataW H → Nat
  | .lit (.string bytes) => bytes.length + 1
  | .lit _ => 1
  | .nil => 1
  | .ptr d => uptoBulk d + 1
  | .slice elems spare => uptoBulkAll elems + uptoBulkAll spare + 1
  | .agg parts => uptoBulkAll parts + 1
  | .iface _ d => uptoBulk d + 1
  | .map entries => uptoBulkEntries entries + 1
  | .held _ => 1
def uptoBulkAll {H : Type} : List (DataW H) → Nat
  | [] => 0
  | d :: r => uptoBulk d + uptoBulkAll r
def uptoBulkEntries {H : Type} : List (Lit × DataW H) → Nat
  | [] => 0
  | x :: r => uptoBulkEntry x + uptoBulkEntries r
def uptoBulkEntry {H : Type} : Lit × DataW H → Nat
  | (.string bytes, d) => bytes.length + uptoBulk d + 1
  | (_, d) => uptoBulk d + 1
 end
def uptoSmall : (H : Type) → List (DataW H) → Bool := fun _ ds => decide (uptoBulkAll ds ≤ 1048576)
def OpenSpec.upto (s : _root_.Go.ChangeSpec) : _root_.Go.OpenSpec := { _root_.Go.OpenSpec.ofChange s with cond := some uptoSmall }

/-- 'duetkeep.ValuesOrder', WHERE WHAT IT READS IS OF BULK AT MOST 1048576: true; the input reads as it did. -/
def valuesOrderUptoRow : OpenClaim := { program := "ytiobdkibbhpojaadoor", sum := "0fc1e9eea01a60ec6df932c49074f1c6a75eeb3e34ce82e50d0e81cb5c795a3f", func := "duet/duetkeep.ValuesOrder", spec := "valuesOrder", named := ["unicode/utf8.first", "unicode/utf8.acceptRanges"], apart := false, laid := [("unicode/utf8.acceptRanges", laid_unicode_utf8_acceptRanges), ("unicode/utf8.first", laid_unicode_utf8_first)], narrowed := true }
def ValuesOrderUptoSaid : Prop := valuesOrderUptoRow.holds Tryd.pinned (OpenSpec.upto valuesOrderSpec)

/-- 'duetkeep.ValuesJoin', WHERE WHAT IT READS IS OF BULK AT MOST 1048576: true; the input reads as it did. -/
def valuesJoinUptoRow : OpenClaim := { program := "ytiobdkibbhpojaadoor", sum := "0fc1e9eea01a60ec6df932c49074f1c6a75eeb3e34ce82e50d0e81cb5c795a3f", func := "duet/duetkeep.ValuesJoin", spec := "valuesJoin", named := ["unicode/utf8.first", "unicode/utf8.acceptRanges"], apart := false, laid := [("unicode/utf8.acceptRanges", laid_unicode_utf8_acceptRanges), ("unicode/utf8.first", laid_unicode_utf8_first)], narrowed := true }
def ValuesJoinUptoSaid : Prop := valuesJoinUptoRow.holds Tryd.pinned (OpenSpec.upto valuesJoinSpec)

/-- 'duetkeep.ExprsSorted', WHERE WHAT IT READS IS OF BULK AT MOST 1048576: true; the input reads as it did. -/
def exprsSortedUptoRow : OpenClaim := { program := "ytiobdkibbhpojaadoor", sum := "0fc1e9eea01a60ec6df932c49074f1c6a75eeb3e34ce82e50d0e81cb5c795a3f", func := "duet/duetkeep.ExprsSorted", spec := "exprsSorted", inPlace := ["internal/bytealg.IndexByteString", "internal/bytealg.IndexString"], unfollowed := true, recurses := true, named := ["unicode/utf8.first", "unicode/utf8.acceptRanges", "internal/bytealg.MaxLen"], loops := true, apart := false, laid := [("unicode/utf8.acceptRanges", laid_unicode_utf8_acceptRanges), ("unicode/utf8.first", laid_unicode_utf8_first)], narrowed := true }
def ExprsSortedUptoSaid : Prop := exprsSortedUptoRow.holds Tryd.pinned (OpenSpec.upto exprsSortedSpec)

/-- 'duetkeep.ExprsFold', WHERE WHAT IT READS IS OF BULK AT MOST 1048576: true; the input reads as it did. -/
def exprsFoldUptoRow : OpenClaim := { program := "ytiobdkibbhpojaadoor", sum := "0fc1e9eea01a60ec6df932c49074f1c6a75eeb3e34ce82e50d0e81cb5c795a3f", func := "duet/duetkeep.ExprsFold", spec := "exprsFold", inPlace := ["internal/bytealg.IndexByteString", "internal/bytealg.IndexString"], unfollowed := true, recurses := true, named := ["unicode/utf8.first", "unicode/utf8.acceptRanges", "internal/bytealg.MaxLen"], loops := true, apart := false, laid := [("unicode/utf8.acceptRanges", laid_unicode_utf8_acceptRanges), ("unicode/utf8.first", laid_unicode_utf8_first)], narrowed := true }
def ExprsFoldUptoSaid : Prop := exprsFoldUptoRow.holds Tryd.pinned (OpenSpec.upto exprsFoldSpec)

/-- 'duetkeep.ValuesBack', WHERE WHAT IT READS IS OF BULK AT MOST 1048576: true; the input reads as it did. -/
def valuesBackUptoRow : OpenClaim := { program := "ytiobdkibbhpojaadoor", sum := "0fc1e9eea01a60ec6df932c49074f1c6a75eeb3e34ce82e50d0e81cb5c795a3f", func := "duet/duetkeep.ValuesBack", spec := "valuesBack", inPlace := ["internal/abi.NoEscape", "internal/bytealg.IndexByteString"], named := ["unicode/utf8.first", "unicode/utf8.acceptRanges", "internal/strconv.uint64pow10", "math/bits.deBruijn32tab", "math/bits.deBruijn64tab", "strconv.ErrSyntax", "strconv.ErrRange"], apart := false, laid := [("math/bits.deBruijn32tab", laid_math_bits_deBruijn32tab), ("math/bits.deBruijn64tab", laid_math_bits_deBruijn64tab), ("internal/strconv.uint64pow10", laid_internal_strconv_uint64pow10), ("unicode/utf8.acceptRanges", laid_unicode_utf8_acceptRanges), ("strconv.ErrRange", laid_strconv_ErrRange), ("strconv.ErrSyntax", laid_strconv_ErrSyntax), ("unicode/utf8.first", laid_unicode_utf8_first)], narrowed := true }
def ValuesBackUptoSaid : Prop := valuesBackUptoRow.holds Tryd.pinned (OpenSpec.upto valuesBackSpec)

/-- 'duetkeep.ExprsFree', WHERE WHAT IT READS IS OF BULK AT MOST 1048576: true; the input reads as it did. -/
def exprsFreeUptoRow : OpenClaim := { program := "ytiobdkibbhpojaadoor", sum := "0fc1e9eea01a60ec6df932c49074f1c6a75eeb3e34ce82e50d0e81cb5c795a3f", func := "duet/duetkeep.ExprsFree", spec := "exprsFree", inPlace := ["internal/bytealg.IndexByteString", "internal/bytealg.IndexString"], unfollowed := true, recurses := true, named := ["unicode/utf8.first", "unicode/utf8.acceptRanges", "internal/bytealg.MaxLen"], loops := true, apart := false, laid := [("unicode/utf8.acceptRanges", laid_unicode_utf8_acceptRanges), ("unicode/utf8.first", laid_unicode_utf8_first)], narrowed := true }
def ExprsFreeUptoSaid : Prop := exprsFreeUptoRow.holds Tryd.pinned (OpenSpec.upto exprsFreeSpec)

/-- 'duetkeep.ExprsPut', WHERE WHAT IT READS IS OF BULK AT MOST 1048576: true; the input reads as it did. -/
def exprsPutUptoRow : OpenClaim := { program := "ytiobdkibbhpojaadoor", sum := "0fc1e9eea01a60ec6df932c49074f1c6a75eeb3e34ce82e50d0e81cb5c795a3f", func := "duet/duetkeep.ExprsPut", spec := "exprsPut", inPlace := ["internal/bytealg.IndexByteString", "internal/bytealg.IndexString"], unfollowed := true, recurses := true, named := ["unicode/utf8.first", "unicode/utf8.acceptRanges", "internal/bytealg.MaxLen"], loops := true, apart := false, laid := [("unicode/utf8.acceptRanges", laid_unicode_utf8_acceptRanges), ("unicode/utf8.first", laid_unicode_utf8_first)], narrowed := true }
def ExprsPutUptoSaid : Prop := exprsPutUptoRow.holds Tryd.pinned (OpenSpec.upto exprsPutSpec)

/-- 'duetkeep.ExprsBack', WHERE WHAT IT READS IS OF BULK AT MOST 1048576: true; the input reads as it did. -/
def exprsBackUptoRow : OpenClaim := { program := "ytiobdkibbhpojaadoor", sum := "0fc1e9eea01a60ec6df932c49074f1c6a75eeb3e34ce82e50d0e81cb5c795a3f", func := "duet/duetkeep.ExprsBack", spec := "exprsBack", inPlace := ["internal/bytealg.IndexByteString", "internal/bytealg.IndexString", "internal/abi.NoEscape"], unfollowed := true, recurses := true, named := ["unicode/utf8.first", "unicode/utf8.acceptRanges", "internal/strconv.uint64pow10", "math/bits.deBruijn32tab", "math/bits.deBruijn64tab", "strconv.ErrSyntax", "strconv.ErrRange", "internal/bytealg.MaxLen"], loops := true, apart := false, laid := [("math/bits.deBruijn32tab", laid_math_bits_deBruijn32tab), ("math/bits.deBruijn64tab", laid_math_bits_deBruijn64tab), ("internal/strconv.uint64pow10", laid_internal_strconv_uint64pow10), ("unicode/utf8.acceptRanges", laid_unicode_utf8_acceptRanges), ("strconv.ErrRange", laid_strconv_ErrRange), ("strconv.ErrSyntax", laid_strconv_ErrSyntax), ("unicode/utf8.first", laid_unicode_utf8_first)], narrowed := true }
def ExprsBackUptoSaid : Prop := exprsBackUptoRow.holds Tryd.pinned (OpenSpec.upto exprsBackSpec)

/-- 'duetkeep.ExprsBrackets', WHERE WHAT IT READS IS OF BULK AT MOST 1048576: true; the input reads as it did. -/
def exprsBracketsUptoRow : OpenClaim := { program := "ytiobdkibbhpojaadoor", sum := "0fc1e9eea01a60ec6df932c49074f1c6a75eeb3e34ce82e50d0e81cb5c795a3f", func := "duet/duetkeep.ExprsBrackets", spec := "exprsBrackets", inPlace := ["internal/bytealg.IndexByteString", "internal/bytealg.IndexString", "internal/abi.NoEscape", "internal/bytealg.MakeNoZero"], unfollowed := true, recurses := true, named := ["unicode/utf8.first", "unicode/utf8.acceptRanges", "strconv.ErrSyntax", "strconv.ErrRange", "internal/strconv.uint64pow10", "math/bits.deBruijn32tab", "math/bits.deBruijn64tab", "internal/bytealg.MaxLen"], apart := false, laid := [("math/bits.deBruijn32tab", laid_math_bits_deBruijn32tab), ("math/bits.deBruijn64tab", laid_math_bits_deBruijn64tab), ("internal/strconv.uint64pow10", laid_internal_strconv_uint64pow10), ("unicode/utf8.acceptRanges", laid_unicode_utf8_acceptRanges), ("strconv.ErrRange", laid_strconv_ErrRange), ("strconv.ErrSyntax", laid_strconv_ErrSyntax), ("unicode/utf8.first", laid_unicode_utf8_first)], narrowed := true }
def ExprsBracketsUptoSaid : Prop := exprsBracketsUptoRow.holds Tryd.pinned (OpenSpec.upto exprsBracketsSpec)

end Rows
end Go.Proofs.YtiobdkibbhpojaaDoor
