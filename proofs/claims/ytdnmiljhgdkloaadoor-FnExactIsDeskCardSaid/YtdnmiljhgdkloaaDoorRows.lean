/-
  NARROWER THAN 'FOR EVERY INPUT', by the rows' own cells (each row's printed sentence says how): FnExactIsDesk: laid · FnExactStepsAbove: laid · FnExactLastReturn: laid · FnExactRecordsOfPath: laid · FnExactAreaIndex: laid · FnPathsRanked: laid · FnBallotsCounted: laid · FnTouchesCounted: laid · FnGoodPathsSorted: laid.
  DERIVED. THE GIVEN ROWS OF THIS SEAT. 9 by the template 'for every input the law returns true; each argument reads behind the call as it read before'; 0 by the template 'total and deterministic' (their statements: YtdnmiljhgdkloaaDoorTotals.lean).
  GIVEN WITH THE SEED: the statements are not yours to turn. If you find one false, say at which input.
  Laid BY PROGRAM, IN A SANDBOX (cutbox-rows.mjs): the forced cells as the released guide's own fill.sh prints them over the translation c8c61a54a0f95536… (all of the seat's roots in one cut). By AI agents, Wed Nov 11 2026. No macro, syntax, notation, axiom, sorry.
-/
import Derived.Test.YtdnmiljhgdkloaaDoorChecked
import GoSem.PinnedTables
import GoSem.Claim
import GoSem.ClaimJoined
import GoSem.ClaimMapViews
import Derived.JoinedTies
import Derived.KernelRfl
namespace Go.Proofs.YtdnmiljhgdkloaaDoor
/- THE CELL 'sum', in the pinned program and in every row, IS THE sha256 OF THE DUMP (.gsa) THAT YtdnmiljhgdkloaaDoorProg.lean LOADS. Nothing in Lean hashes anything: it is a label: what it is worth is what the hold of that sum in a sandbox is worth. -/
noncomputable def Tryd.pinned : Pinned := { name := "ytdnmiljhgdkloaadoor", sum := "c8c61a54a0f95536ceba22bbb378421e36442fbd4f5c7ca1a7bc63547a7de8b6", checked := Tryd.checked }
namespace Rows
def none {H : Type} : Left H := { results := [], args := [] }

/- WHAT THE LISTED PACKAGE-LEVEL VARIABLES READ AS WHEN THE CALL BEGINS. Each datum BY PROGRAM (the guide's laid-datum.mjs) off the statement by which the dump's own 'gosem.cut.vars' lays the variable. In a bare row this is a premise. The card (YtdnmiljhgdkloaaDoorCards.lean) ties it to the program's text. -/
def laid_unicode_utf8_acceptRanges {H : Type} : DataW H := .agg [.agg [.lit (.int .u8 128), .lit (.int .u8 191)], .agg [.lit (.int .u8 160), .lit (.int .u8 191)], .agg [.lit (.int .u8 128), .lit (.int .u8 159)], .agg [.lit (.int .u8 144), .lit (.int .u8 191)], .agg [.lit (.int .u8 128), .lit (.int .u8 143)], .agg [.lit (.int .u8 0), .lit (.int .u8 0)], .agg [.lit (.int .u8 0), .lit (.int .u8 0)], .agg [.lit (.int .u8 0), .lit (.int .u8 0)], .agg [.lit (.int .u8 0), .lit (.int .u8 0)], .agg [.lit (.int .u8 0), .lit (.int .u8 0)], .agg [.lit (.int .u8 0), .lit (.int .u8 0)], .agg [.lit (.int .u8 0), .lit (.int .u8 0)], .agg [.lit (.int .u8 0), .lit (.int .u8 0)], .agg [.lit (.int .u8 0), .lit (.int .u8 0)], .agg [.lit (.int .u8 0), .lit (.int .u8 0)], .agg [.lit (.int .u8 0), .lit (.int .u8 0)]]
/-- One of Go's own tables, pinned by name: the form's constant. -/
def laid_unicode_utf8_first : DataW Unit := Go.Pinned.utf8First

/-- 'laws.FnExactIsDesk': WHATEVER THE INPUT: true; the input reads as it did. -/
def fnExactIsDeskSpec : ChangeSpec := { name := "fnExactIsDesk", fn := fun _ => fun
  | [d] => { results := [.lit (.bool true)], args := [d] }
  | _ => none }
def fnExactIsDeskRow : OpenClaim := { program := "ytdnmiljhgdkloaadoor", sum := "c8c61a54a0f95536ceba22bbb378421e36442fbd4f5c7ca1a7bc63547a7de8b6", func := "loop.example/g01218/laws.FnExactIsDesk", spec := "fnExactIsDesk", inPlace := ["internal/bytealg.IndexByteString", "internal/bytealg.IndexString"], named := ["unicode/utf8.first", "unicode/utf8.acceptRanges", "internal/bytealg.MaxLen"], plainKeys := false, apart := false, laid := [("unicode/utf8.acceptRanges", laid_unicode_utf8_acceptRanges), ("unicode/utf8.first", laid_unicode_utf8_first)] }
def FnExactIsDeskSaid : Prop := fnExactIsDeskRow.holds Tryd.pinned (OpenSpec.ofChange fnExactIsDeskSpec)

/-- ITS FALSE NEIGHBOUR: 'it returns false'. Refute it at one input. -/
def fnExactIsDeskWrong : ChangeSpec := { name := "fnExactIsDesk", fn := fun _ => fun
  | [d] => { results := [.lit (.bool false)], args := [d] }
  | _ => none }
def FnExactIsDeskWrongFalsely : Prop := fnExactIsDeskRow.holds Tryd.pinned (OpenSpec.ofChange fnExactIsDeskWrong)

/-- 'laws.FnExactStepsAbove': WHATEVER THE INPUT: true; the input reads as it did. -/
def fnExactStepsAboveSpec : ChangeSpec := { name := "fnExactStepsAbove", fn := fun _ => fun
  | [d] => { results := [.lit (.bool true)], args := [d] }
  | _ => none }
def fnExactStepsAboveRow : OpenClaim := { program := "ytdnmiljhgdkloaadoor", sum := "c8c61a54a0f95536ceba22bbb378421e36442fbd4f5c7ca1a7bc63547a7de8b6", func := "loop.example/g01218/laws.FnExactStepsAbove", spec := "fnExactStepsAbove", inPlace := ["internal/bytealg.IndexByteString", "internal/bytealg.IndexString"], named := ["unicode/utf8.first", "unicode/utf8.acceptRanges", "internal/bytealg.MaxLen"], plainKeys := false, apart := false, laid := [("unicode/utf8.acceptRanges", laid_unicode_utf8_acceptRanges), ("unicode/utf8.first", laid_unicode_utf8_first)] }
def FnExactStepsAboveSaid : Prop := fnExactStepsAboveRow.holds Tryd.pinned (OpenSpec.ofChange fnExactStepsAboveSpec)

/-- ITS FALSE NEIGHBOUR: 'it returns false'. Refute it at one input. -/
def fnExactStepsAboveWrong : ChangeSpec := { name := "fnExactStepsAbove", fn := fun _ => fun
  | [d] => { results := [.lit (.bool false)], args := [d] }
  | _ => none }
def FnExactStepsAboveWrongFalsely : Prop := fnExactStepsAboveRow.holds Tryd.pinned (OpenSpec.ofChange fnExactStepsAboveWrong)

/-- 'laws.FnExactLastReturn': WHATEVER THE INPUT: true; the input reads as it did. -/
def fnExactLastReturnSpec : ChangeSpec := { name := "fnExactLastReturn", fn := fun _ => fun
  | [d] => { results := [.lit (.bool true)], args := [d] }
  | _ => none }
def fnExactLastReturnRow : OpenClaim := { program := "ytdnmiljhgdkloaadoor", sum := "c8c61a54a0f95536ceba22bbb378421e36442fbd4f5c7ca1a7bc63547a7de8b6", func := "loop.example/g01218/laws.FnExactLastReturn", spec := "fnExactLastReturn", inPlace := ["internal/bytealg.IndexByteString", "internal/bytealg.IndexString"], named := ["unicode/utf8.first", "unicode/utf8.acceptRanges", "internal/bytealg.MaxLen"], plainKeys := false, apart := false, laid := [("unicode/utf8.acceptRanges", laid_unicode_utf8_acceptRanges), ("unicode/utf8.first", laid_unicode_utf8_first)] }
def FnExactLastReturnSaid : Prop := fnExactLastReturnRow.holds Tryd.pinned (OpenSpec.ofChange fnExactLastReturnSpec)

/-- ITS FALSE NEIGHBOUR: 'it returns false'. Refute it at one input. -/
def fnExactLastReturnWrong : ChangeSpec := { name := "fnExactLastReturn", fn := fun _ => fun
  | [d] => { results := [.lit (.bool false)], args := [d] }
  | _ => none }
def FnExactLastReturnWrongFalsely : Prop := fnExactLastReturnRow.holds Tryd.pinned (OpenSpec.ofChange fnExactLastReturnWrong)

/-- 'laws.FnExactRecordsOfPath': WHATEVER THE INPUT: true; the input reads as it did. -/
def fnExactRecordsOfPathSpec : ChangeSpec := { name := "fnExactRecordsOfPath", fn := fun _ => fun
  | [d] => { results := [.lit (.bool true)], args := [d] }
  | _ => none }
def fnExactRecordsOfPathRow : OpenClaim := { program := "ytdnmiljhgdkloaadoor", sum := "c8c61a54a0f95536ceba22bbb378421e36442fbd4f5c7ca1a7bc63547a7de8b6", func := "loop.example/g01218/laws.FnExactRecordsOfPath", spec := "fnExactRecordsOfPath", inPlace := ["internal/bytealg.IndexByteString", "internal/bytealg.IndexString"], named := ["unicode/utf8.first", "unicode/utf8.acceptRanges", "internal/bytealg.MaxLen"], plainKeys := false, apart := false, laid := [("unicode/utf8.acceptRanges", laid_unicode_utf8_acceptRanges), ("unicode/utf8.first", laid_unicode_utf8_first)] }
def FnExactRecordsOfPathSaid : Prop := fnExactRecordsOfPathRow.holds Tryd.pinned (OpenSpec.ofChange fnExactRecordsOfPathSpec)

/-- ITS FALSE NEIGHBOUR: 'it returns false'. Refute it at one input. -/
def fnExactRecordsOfPathWrong : ChangeSpec := { name := "fnExactRecordsOfPath", fn := fun _ => fun
  | [d] => { results := [.lit (.bool false)], args := [d] }
  | _ => none }
def FnExactRecordsOfPathWrongFalsely : Prop := fnExactRecordsOfPathRow.holds Tryd.pinned (OpenSpec.ofChange fnExactRecordsOfPathWrong)

/-- 'laws.FnExactAreaIndex': WHATEVER THE INPUT: true; the input reads as it did. -/
def fnExactAreaIndexSpec : ChangeSpec := { name := "fnExactAreaIndex", fn := fun _ => fun
  | [d] => { results := [.lit (.bool true)], args := [d] }
  | _ => none }
def fnExactAreaIndexRow : OpenClaim := { program := "ytdnmiljhgdkloaadoor", sum := "c8c61a54a0f95536ceba22bbb378421e36442fbd4f5c7ca1a7bc63547a7de8b6", func := "loop.example/g01218/laws.FnExactAreaIndex", spec := "fnExactAreaIndex", inPlace := ["internal/bytealg.IndexByteString", "internal/bytealg.IndexString"], named := ["unicode/utf8.first", "unicode/utf8.acceptRanges", "internal/bytealg.MaxLen"], plainKeys := false, apart := false, laid := [("unicode/utf8.acceptRanges", laid_unicode_utf8_acceptRanges), ("unicode/utf8.first", laid_unicode_utf8_first)] }
def FnExactAreaIndexSaid : Prop := fnExactAreaIndexRow.holds Tryd.pinned (OpenSpec.ofChange fnExactAreaIndexSpec)

/-- ITS FALSE NEIGHBOUR: 'it returns false'. Refute it at one input. -/
def fnExactAreaIndexWrong : ChangeSpec := { name := "fnExactAreaIndex", fn := fun _ => fun
  | [d] => { results := [.lit (.bool false)], args := [d] }
  | _ => none }
def FnExactAreaIndexWrongFalsely : Prop := fnExactAreaIndexRow.holds Tryd.pinned (OpenSpec.ofChange fnExactAreaIndexWrong)

/-- 'laws.FnPathsRanked': WHATEVER THE INPUT: true; the input reads as it did. -/
def fnPathsRankedSpec : ChangeSpec := { name := "fnPathsRanked", fn := fun _ => fun
  | [d1, d2] => { results := [.lit (.bool true)], args := [d1, d2] }
  | _ => none }
def fnPathsRankedRow : OpenClaim := { program := "ytdnmiljhgdkloaadoor", sum := "c8c61a54a0f95536ceba22bbb378421e36442fbd4f5c7ca1a7bc63547a7de8b6", func := "loop.example/g01218/laws.FnPathsRanked", spec := "fnPathsRanked", inPlace := ["internal/bytealg.IndexByteString", "internal/bytealg.IndexString", "internal/bytealg.CountString", "internal/abi.NoEscape", "internal/bytealg.MakeNoZero"], unfollowed := true, recurses := true, named := ["unicode/utf8.first", "unicode/utf8.acceptRanges", "internal/bytealg.MaxLen"], plainKeys := false, apart := false, laid := [("unicode/utf8.acceptRanges", laid_unicode_utf8_acceptRanges), ("unicode/utf8.first", laid_unicode_utf8_first)] }
def FnPathsRankedSaid : Prop := fnPathsRankedRow.holds Tryd.pinned (OpenSpec.ofChange fnPathsRankedSpec)

/-- ITS FALSE NEIGHBOUR: 'it returns false'. Refute it at one input. -/
def fnPathsRankedWrong : ChangeSpec := { name := "fnPathsRanked", fn := fun _ => fun
  | [d1, d2] => { results := [.lit (.bool false)], args := [d1, d2] }
  | _ => none }
def FnPathsRankedWrongFalsely : Prop := fnPathsRankedRow.holds Tryd.pinned (OpenSpec.ofChange fnPathsRankedWrong)

/-- 'laws.FnBallotsCounted': WHATEVER THE INPUT: true; the input reads as it did. -/
def fnBallotsCountedSpec : ChangeSpec := { name := "fnBallotsCounted", fn := fun _ => fun
  | [d1, d2] => { results := [.lit (.bool true)], args := [d1, d2] }
  | _ => none }
def fnBallotsCountedRow : OpenClaim := { program := "ytdnmiljhgdkloaadoor", sum := "c8c61a54a0f95536ceba22bbb378421e36442fbd4f5c7ca1a7bc63547a7de8b6", func := "loop.example/g01218/laws.FnBallotsCounted", spec := "fnBallotsCounted", inPlace := ["internal/bytealg.IndexByteString", "internal/bytealg.IndexString", "internal/bytealg.CountString"], unfollowed := true, recurses := true, named := ["unicode/utf8.first", "unicode/utf8.acceptRanges", "internal/bytealg.MaxLen"], plainKeys := false, apart := false, laid := [("unicode/utf8.acceptRanges", laid_unicode_utf8_acceptRanges), ("unicode/utf8.first", laid_unicode_utf8_first)] }
def FnBallotsCountedSaid : Prop := fnBallotsCountedRow.holds Tryd.pinned (OpenSpec.ofChange fnBallotsCountedSpec)

/-- ITS FALSE NEIGHBOUR: 'it returns false'. Refute it at one input. -/
def fnBallotsCountedWrong : ChangeSpec := { name := "fnBallotsCounted", fn := fun _ => fun
  | [d1, d2] => { results := [.lit (.bool false)], args := [d1, d2] }
  | _ => none }
def FnBallotsCountedWrongFalsely : Prop := fnBallotsCountedRow.holds Tryd.pinned (OpenSpec.ofChange fnBallotsCountedWrong)

/-- 'laws.FnTouchesCounted': WHATEVER THE INPUT: true; the input reads as it did. -/
def fnTouchesCountedSpec : ChangeSpec := { name := "fnTouchesCounted", fn := fun _ => fun
  | [d1, d2] => { results := [.lit (.bool true)], args := [d1, d2] }
  | _ => none }
def fnTouchesCountedRow : OpenClaim := { program := "ytdnmiljhgdkloaadoor", sum := "c8c61a54a0f95536ceba22bbb378421e36442fbd4f5c7ca1a7bc63547a7de8b6", func := "loop.example/g01218/laws.FnTouchesCounted", spec := "fnTouchesCounted", inPlace := ["internal/bytealg.IndexByteString", "internal/bytealg.IndexString"], unfollowed := true, recurses := true, named := ["unicode/utf8.first", "unicode/utf8.acceptRanges", "internal/bytealg.MaxLen"], plainKeys := false, apart := false, laid := [("unicode/utf8.acceptRanges", laid_unicode_utf8_acceptRanges), ("unicode/utf8.first", laid_unicode_utf8_first)] }
def FnTouchesCountedSaid : Prop := fnTouchesCountedRow.holds Tryd.pinned (OpenSpec.ofChange fnTouchesCountedSpec)

/-- ITS FALSE NEIGHBOUR: 'it returns false'. Refute it at one input. -/
def fnTouchesCountedWrong : ChangeSpec := { name := "fnTouchesCounted", fn := fun _ => fun
  | [d1, d2] => { results := [.lit (.bool false)], args := [d1, d2] }
  | _ => none }
def FnTouchesCountedWrongFalsely : Prop := fnTouchesCountedRow.holds Tryd.pinned (OpenSpec.ofChange fnTouchesCountedWrong)

/-- 'laws.FnGoodPathsSorted': WHATEVER THE INPUT: true; the input reads as it did. -/
def fnGoodPathsSortedSpec : ChangeSpec := { name := "fnGoodPathsSorted", fn := fun _ => fun
  | [d1, d2] => { results := [.lit (.bool true)], args := [d1, d2] }
  | _ => none }
def fnGoodPathsSortedRow : OpenClaim := { program := "ytdnmiljhgdkloaadoor", sum := "c8c61a54a0f95536ceba22bbb378421e36442fbd4f5c7ca1a7bc63547a7de8b6", func := "loop.example/g01218/laws.FnGoodPathsSorted", spec := "fnGoodPathsSorted", inPlace := ["internal/bytealg.IndexByteString", "internal/bytealg.IndexString"], unfollowed := true, recurses := true, named := ["unicode/utf8.first", "unicode/utf8.acceptRanges", "internal/bytealg.MaxLen"], plainKeys := false, apart := false, laid := [("unicode/utf8.acceptRanges", laid_unicode_utf8_acceptRanges), ("unicode/utf8.first", laid_unicode_utf8_first)] }
def FnGoodPathsSortedSaid : Prop := fnGoodPathsSortedRow.holds Tryd.pinned (OpenSpec.ofChange fnGoodPathsSortedSpec)

/-- ITS FALSE NEIGHBOUR: 'it returns false'. Refute it at one input. -/
def fnGoodPathsSortedWrong : ChangeSpec := { name := "fnGoodPathsSorted", fn := fun _ => fun
  | [d1, d2] => { results := [.lit (.bool false)], args := [d1, d2] }
  | _ => none }
def FnGoodPathsSortedWrongFalsely : Prop := fnGoodPathsSortedRow.holds Tryd.pinned (OpenSpec.ofChange fnGoodPathsSortedWrong)

/- THE SECOND FORM. 'bulk': how many values and letters a reading holds, each counted each time it is reached (what is shared counts as often as it is met; a slice's spare places count too). A statement '..UptoSaid' is the law's where the arguments, and the package variables that the reading takes, are together of bulk at most 1048576: NARROWER than '..Said'. Prove '..Said' where nothing that the law and all that it calls make is longer than what came in: it says more and counts as full. Else prove '..UptoSaid'. A law counts once. -/
mutual
def uptoBulk {H : Type} : DataW H → Nat
  | .lit (.string bytes) => bytes.length + 1
  | .lit _ => 1
  | .nil => 1
  | .ptr d => uptoBulk d + 1
  | .slice elems spare => uptoBulkAll elems + uptoBulkAll spare + 1
  | .agg parts => uptoBulkAll parts + 1
  | .iface _ d => uptoBulk d + 1
  | .map entries => uptoBulkEntries entries + 1
  | .held _ => 1
def uptoBulkAll {H : Type} : List (DataW H) → Nat
  | [] => 0
  | d :: r => uptoBulk d + uptoBulkAll r
def uptoBulkEntries {H : Type} : List (Lit × DataW H) → Nat
  | [] => 0
  | x :: r => uptoBulkEntry x + uptoBulkEntries r
def uptoBulkEntry {H : Type} : Lit × DataW H → Nat
  | (.string bytes, d) => bytes.length + uptoBulk d + 1
  | (_, d) => uptoBulk d + 1
 end
def uptoSmall : (H : Type) → List (DataW H) → Bool := fun _ ds => decide (uptoBulkAll ds ≤ 1048576)
def OpenSpec.upto (s : _root_.Go.ChangeSpec) : _root_.Go.OpenSpec := { _root_.Go.OpenSpec.ofChange s with cond := some uptoSmall }

/-- 'laws.FnExactIsDesk', WHERE WHAT IT READS IS OF BULK AT MOST 1048576: true; the input reads as it did. -/
def fnExactIsDeskUptoRow : OpenClaim := { program := "ytdnmiljhgdkloaadoor", sum := "c8c61a54a0f95536ceba22bbb378421e36442fbd4f5c7ca1a7bc63547a7de8b6", func := "loop.example/g01218/laws.FnExactIsDesk", spec := "fnExactIsDesk", inPlace := ["internal/bytealg.IndexByteString", "internal/bytealg.IndexString"], named := ["unicode/utf8.first", "unicode/utf8.acceptRanges", "internal/bytealg.MaxLen"], plainKeys := false, apart := false, laid := [("unicode/utf8.acceptRanges", laid_unicode_utf8_acceptRanges), ("unicode/utf8.first", laid_unicode_utf8_first)], narrowed := true }
def FnExactIsDeskUptoSaid : Prop := fnExactIsDeskUptoRow.holds Tryd.pinned (OpenSpec.upto fnExactIsDeskSpec)

/-- 'laws.FnExactStepsAbove', WHERE WHAT IT READS IS OF BULK AT MOST 1048576: true; the input reads as it did. -/
def fnExactStepsAboveUptoRow : OpenClaim := { program := "ytdnmiljhgdkloaadoor", sum := "c8c61a54a0f95536ceba22bbb378421e36442fbd4f5c7ca1a7bc63547a7de8b6", func := "loop.example/g01218/laws.FnExactStepsAbove", spec := "fnExactStepsAbove", inPlace := ["internal/bytealg.IndexByteString", "internal/bytealg.IndexString"], named := ["unicode/utf8.first", "unicode/utf8.acceptRanges", "internal/bytealg.MaxLen"], plainKeys := false, apart := false, laid := [("unicode/utf8.acceptRanges", laid_unicode_utf8_acceptRanges), ("unicode/utf8.first", laid_unicode_utf8_first)], narrowed := true }
def FnExactStepsAboveUptoSaid : Prop := fnExactStepsAboveUptoRow.holds Tryd.pinned (OpenSpec.upto fnExactStepsAboveSpec)

/-- 'laws.FnExactLastReturn', WHERE WHAT IT READS IS OF BULK AT MOST 1048576: true; the input reads as it did. -/
def fnExactLastReturnUptoRow : OpenClaim := { program := "ytdnmiljhgdkloaadoor", sum := "c8c61a54a0f95536ceba22bbb378421e36442fbd4f5c7ca1a7bc63547a7de8b6", func := "loop.example/g01218/laws.FnExactLastReturn", spec := "fnExactLastReturn", inPlace := ["internal/bytealg.IndexByteString", "internal/bytealg.IndexString"], named := ["unicode/utf8.first", "unicode/utf8.acceptRanges", "internal/bytealg.MaxLen"], plainKeys := false, apart := false, laid := [("unicode/utf8.acceptRanges", laid_unicode_utf8_acceptRanges), ("unicode/utf8.first", laid_unicode_utf8_first)], narrowed := true }
def FnExactLastReturnUptoSaid : Prop := fnExactLastReturnUptoRow.holds Tryd.pinned (OpenSpec.upto fnExactLastReturnSpec)

/-- 'laws.FnExactRecordsOfPath', WHERE WHAT IT READS IS OF BULK AT MOST 1048576: true; the input reads as it did. -/
def fnExactRecordsOfPathUptoRow : OpenClaim := { program := "ytdnmiljhgdkloaadoor", sum := "c8c61a54a0f95536ceba22bbb378421e36442fbd4f5c7ca1a7bc63547a7de8b6", func := "loop.example/g01218/laws.FnExactRecordsOfPath", spec := "fnExactRecordsOfPath", inPlace := ["internal/bytealg.IndexByteString", "internal/bytealg.IndexString"], named := ["unicode/utf8.first", "unicode/utf8.acceptRanges", "internal/bytealg.MaxLen"], plainKeys := false, apart := false, laid := [("unicode/utf8.acceptRanges", laid_unicode_utf8_acceptRanges), ("unicode/utf8.first", laid_unicode_utf8_first)], narrowed := true }
def FnExactRecordsOfPathUptoSaid : Prop := fnExactRecordsOfPathUptoRow.holds Tryd.pinned (OpenSpec.upto fnExactRecordsOfPathSpec)

/-- 'laws.FnExactAreaIndex', WHERE WHAT IT READS IS OF BULK AT MOST 1048576: true; the input reads as it did. -/
def fnExactAreaIndexUptoRow : OpenClaim := { program := "ytdnmiljhgdkloaadoor", sum := "c8c61a54a0f95536ceba22bbb378421e36442fbd4f5c7ca1a7bc63547a7de8b6", func := "loop.example/g01218/laws.FnExactAreaIndex", spec := "fnExactAreaIndex", inPlace := ["internal/bytealg.IndexByteString", "internal/bytealg.IndexString"], named := ["unicode/utf8.first", "unicode/utf8.acceptRanges", "internal/bytealg.MaxLen"], plainKeys := false, apart := false, laid := [("unicode/utf8.acceptRanges", laid_unicode_utf8_acceptRanges), ("unicode/utf8.first", laid_unicode_utf8_first)], narrowed := true }
def FnExactAreaIndexUptoSaid : Prop := fnExactAreaIndexUptoRow.holds Tryd.pinned (OpenSpec.upto fnExactAreaIndexSpec)

/-- 'laws.FnPathsRanked', WHERE WHAT IT READS IS OF BULK AT MOST 1048576: true; the input reads as it did. -/
def fnPathsRankedUptoRow : OpenClaim := { program := "ytdnmiljhgdkloaadoor", sum := "c8c61a54a0f95536ceba22bbb378421e36442fbd4f5c7ca1a7bc63547a7de8b6", func := "loop.example/g01218/laws.FnPathsRanked", spec := "fnPathsRanked", inPlace := ["internal/bytealg.IndexByteString", "internal/bytealg.IndexString", "internal/bytealg.CountString", "internal/abi.NoEscape", "internal/bytealg.MakeNoZero"], unfollowed := true, recurses := true, named := ["unicode/utf8.first", "unicode/utf8.acceptRanges", "internal/bytealg.MaxLen"], plainKeys := false, apart := false, laid := [("unicode/utf8.acceptRanges", laid_unicode_utf8_acceptRanges), ("unicode/utf8.first", laid_unicode_utf8_first)], narrowed := true }
def FnPathsRankedUptoSaid : Prop := fnPathsRankedUptoRow.holds Tryd.pinned (OpenSpec.upto fnPathsRankedSpec)

/-- 'laws.FnBallotsCounted', WHERE WHAT IT READS IS OF BULK AT MOST 1048576: true; the input reads as it did. -/
def fnBallotsCountedUptoRow : OpenClaim := { program := "ytdnmiljhgdkloaadoor", sum := "c8c61a54a0f95536ceba22bbb378421e36442fbd4f5c7ca1a7bc63547a7de8b6", func := "loop.example/g01218/laws.FnBallotsCounted", spec := "fnBallotsCounted", inPlace := ["internal/bytealg.IndexByteString", "internal/bytealg.IndexString", "internal/bytealg.CountString"], unfollowed := true, recurses := true, named := ["unicode/utf8.first", "unicode/utf8.acceptRanges", "internal/bytealg.MaxLen"], plainKeys := false, apart := false, laid := [("unicode/utf8.acceptRanges", laid_unicode_utf8_acceptRanges), ("unicode/utf8.first", laid_unicode_utf8_first)], narrowed := true }
def FnBallotsCountedUptoSaid : Prop := fnBallotsCountedUptoRow.holds Tryd.pinned (OpenSpec.upto fnBallotsCountedSpec)

/-- 'laws.FnTouchesCounted', WHERE WHAT IT READS IS OF BULK AT MOST 1048576: true; the input reads as it did. -/
def fnTouchesCountedUptoRow : OpenClaim := { program := "ytdnmiljhgdkloaadoor", sum := "c8c61a54a0f95536ceba22bbb378421e36442fbd4f5c7ca1a7bc63547a7de8b6", func := "loop.example/g01218/laws.FnTouchesCounted", spec := "fnTouchesCounted", inPlace := ["internal/bytealg.IndexByteString", "internal/bytealg.IndexString"], unfollowed := true, recurses := true, named := ["unicode/utf8.first", "unicode/utf8.acceptRanges", "internal/bytealg.MaxLen"], plainKeys := false, apart := false, laid := [("unicode/utf8.acceptRanges", laid_unicode_utf8_acceptRanges), ("unicode/utf8.first", laid_unicode_utf8_first)], narrowed := true }
def FnTouchesCountedUptoSaid : Prop := fnTouchesCountedUptoRow.holds Tryd.pinned (OpenSpec.upto fnTouchesCountedSpec)

/-- 'laws.FnGoodPathsSorted', WHERE WHAT IT READS IS OF BULK AT MOST 1048576: true; the input reads as it did. -/
def fnGoodPathsSortedUptoRow : OpenClaim := { program := "ytdnmiljhgdkloaadoor", sum := "c8c61a54a0f95536ceba22bbb378421e36442fbd4f5c7ca1a7bc63547a7de8b6", func := "loop.example/g01218/laws.FnGoodPathsSorted", spec := "fnGoodPathsSorted", inPlace := ["internal/bytealg.IndexByteString", "internal/bytealg.IndexString"], unfollowed := true, recurses := true, named := ["unicode/utf8.first", "unicode/utf8.acceptRanges", "internal/bytealg.MaxLen"], plainKeys := false, apart := false, laid := [("unicode/utf8.acceptRanges", laid_unicode_utf8_acceptRanges), ("unicode/utf8.first", laid_unicode_utf8_first)], narrowed := true }
def FnGoodPathsSortedUptoSaid : Prop := fnGoodPathsSortedUptoRow.holds Tryd.pinned (OpenSpec.upto fnGoodPathsSortedSpec)

end Rows
end Go.Proofs.YtdnmiljhgdkloaaDoor
