/-
  NARROWER THAN 'FOR EVERY INPUT', by the rows' own cells (each row's printed sentence says how): FnExactAreVotes: laid · FnExactReverseVotes: laid · FnExactIsOrdered: laid · FnExactFirstOvertaken: laid · FnExactCountsOfVotes: laid · FnExactWinnersOf: laid · FnExactLeadersAlong: laid · FnExactTableOfVotes: laid · FnExactVotesOfTable: laid · FnExactRankOrdered: laid · FnExactColumnVotes: laid · FnVotesTold: laid.
  DERIVED. THE GIVEN ROWS OF THIS SEAT. 12 by the template 'for every input the law returns true; each argument reads behind the call as it read before'; 0 by the template 'total and deterministic' (their statements: YtfjpejdlgmlmhaaDoorTotals.lean).
  GIVEN WITH THE SEED: the statements are not yours to turn. If you find one false, say at which input.
  Laid BY PROGRAM, IN A SANDBOX (cutbox-rows.mjs): the forced cells as the released guide's own fill.sh prints them over the translation 8605e434690541f5… (all of the seat's roots in one cut). By AI agents, Wed Nov 11 2026. No macro, syntax, notation, axiom, sorry.
-/
import Derived.Test.YtfjpejdlgmlmhaaDoorChecked
import GoSem.PinnedTables
import GoSem.Claim
import GoSem.ClaimJoined
import GoSem.ClaimMapViews
import Derived.JoinedTies
import Derived.KernelRfl
namespace Go.Proofs.YtfjpejdlgmlmhaaDoor
/- THE CELL 'sum', in the pinned program and in every row, IS THE sha256 OF THE DUMP (.gsa) THAT YtfjpejdlgmlmhaaDoorProg.lean LOADS. Nothing in Lean hashes anything: it is a label: what it is worth is what the hold of that sum in a sandbox is worth. -/
noncomputable def Tryd.pinned : Pinned := { name := "ytfjpejdlgmlmhaadoor", sum := "8605e434690541f5ee23d2de671309e7b4449a5f0d1bbb0435b3d2f81802d9f6", checked := Tryd.checked }
namespace Rows
def none {H : Type} : Left H := { results := [], args := [] }

/- WHAT THE LISTED PACKAGE-LEVEL VARIABLES READ AS WHEN THE CALL BEGINS. Each datum BY PROGRAM (the guide's laid-datum.mjs) off the statement by which the dump's own 'gosem.cut.vars' lays the variable. In a bare row this is a premise. The card (YtfjpejdlgmlmhaaDoorCards.lean) ties it to the program's text. -/
def laid_unicode_utf8_acceptRanges {H : Type} : DataW H := .agg [.agg [.lit (.int .u8 128), .lit (.int .u8 191)], .agg [.lit (.int .u8 160), .lit (.int .u8 191)], .agg [.lit (.int .u8 128), .lit (.int .u8 159)], .agg [.lit (.int .u8 144), .lit (.int .u8 191)], .agg [.lit (.int .u8 128), .lit (.int .u8 143)], .agg [.lit (.int .u8 0), .lit (.int .u8 0)], .agg [.lit (.int .u8 0), .lit (.int .u8 0)], .agg [.lit (.int .u8 0), .lit (.int .u8 0)], .agg [.lit (.int .u8 0), .lit (.int .u8 0)], .agg [.lit (.int .u8 0), .lit (.int .u8 0)], .agg [.lit (.int .u8 0), .lit (.int .u8 0)], .agg [.lit (.int .u8 0), .lit (.int .u8 0)], .agg [.lit (.int .u8 0), .lit (.int .u8 0)], .agg [.lit (.int .u8 0), .lit (.int .u8 0)], .agg [.lit (.int .u8 0), .lit (.int .u8 0)], .agg [.lit (.int .u8 0), .lit (.int .u8 0)]]
/-- One of Go's own tables, pinned by name: the form's constant. -/
def laid_unicode_utf8_first : DataW Unit := Go.Pinned.utf8First

/-- 'laws.FnExactAreVotes': WHATEVER THE INPUT: true; the input reads as it did. -/
def fnExactAreVotesSpec : ChangeSpec := { name := "fnExactAreVotes", fn := fun _ => fun
  | [d] => { results := [.lit (.bool true)], args := [d] }
  | _ => none }
def fnExactAreVotesRow : OpenClaim := { program := "ytfjpejdlgmlmhaadoor", sum := "8605e434690541f5ee23d2de671309e7b4449a5f0d1bbb0435b3d2f81802d9f6", func := "loop.example/g01218/laws.FnExactAreVotes", spec := "fnExactAreVotes", inPlace := ["internal/bytealg.IndexByteString", "internal/bytealg.IndexString"], named := ["unicode/utf8.first", "unicode/utf8.acceptRanges", "internal/bytealg.MaxLen"], plainKeys := false, apart := false, laid := [("unicode/utf8.acceptRanges", laid_unicode_utf8_acceptRanges), ("unicode/utf8.first", laid_unicode_utf8_first)] }
def FnExactAreVotesSaid : Prop := fnExactAreVotesRow.holds Tryd.pinned (OpenSpec.ofChange fnExactAreVotesSpec)

/-- ITS FALSE NEIGHBOUR: 'it returns false'. Refute it at one input. -/
def fnExactAreVotesWrong : ChangeSpec := { name := "fnExactAreVotes", fn := fun _ => fun
  | [d] => { results := [.lit (.bool false)], args := [d] }
  | _ => none }
def FnExactAreVotesWrongFalsely : Prop := fnExactAreVotesRow.holds Tryd.pinned (OpenSpec.ofChange fnExactAreVotesWrong)

/-- 'laws.FnExactReverseVotes': WHATEVER THE INPUT: true; the input reads as it did. -/
def fnExactReverseVotesSpec : ChangeSpec := { name := "fnExactReverseVotes", fn := fun _ => fun
  | [d] => { results := [.lit (.bool true)], args := [d] }
  | _ => none }
def fnExactReverseVotesRow : OpenClaim := { program := "ytfjpejdlgmlmhaadoor", sum := "8605e434690541f5ee23d2de671309e7b4449a5f0d1bbb0435b3d2f81802d9f6", func := "loop.example/g01218/laws.FnExactReverseVotes", spec := "fnExactReverseVotes", inPlace := ["internal/bytealg.IndexByteString", "internal/bytealg.IndexString"], named := ["unicode/utf8.first", "unicode/utf8.acceptRanges", "internal/bytealg.MaxLen"], plainKeys := false, apart := false, laid := [("unicode/utf8.acceptRanges", laid_unicode_utf8_acceptRanges), ("unicode/utf8.first", laid_unicode_utf8_first)] }
def FnExactReverseVotesSaid : Prop := fnExactReverseVotesRow.holds Tryd.pinned (OpenSpec.ofChange fnExactReverseVotesSpec)

/-- ITS FALSE NEIGHBOUR: 'it returns false'. Refute it at one input. -/
def fnExactReverseVotesWrong : ChangeSpec := { name := "fnExactReverseVotes", fn := fun _ => fun
  | [d] => { results := [.lit (.bool false)], args := [d] }
  | _ => none }
def FnExactReverseVotesWrongFalsely : Prop := fnExactReverseVotesRow.holds Tryd.pinned (OpenSpec.ofChange fnExactReverseVotesWrong)

/-- 'laws.FnExactIsOrdered': WHATEVER THE INPUT: true; the input reads as it did. -/
def fnExactIsOrderedSpec : ChangeSpec := { name := "fnExactIsOrdered", fn := fun _ => fun
  | [d] => { results := [.lit (.bool true)], args := [d] }
  | _ => none }
def fnExactIsOrderedRow : OpenClaim := { program := "ytfjpejdlgmlmhaadoor", sum := "8605e434690541f5ee23d2de671309e7b4449a5f0d1bbb0435b3d2f81802d9f6", func := "loop.example/g01218/laws.FnExactIsOrdered", spec := "fnExactIsOrdered", inPlace := ["internal/bytealg.IndexByteString", "internal/bytealg.IndexString"], named := ["unicode/utf8.first", "unicode/utf8.acceptRanges", "internal/bytealg.MaxLen"], plainKeys := false, apart := false, laid := [("unicode/utf8.acceptRanges", laid_unicode_utf8_acceptRanges), ("unicode/utf8.first", laid_unicode_utf8_first)] }
def FnExactIsOrderedSaid : Prop := fnExactIsOrderedRow.holds Tryd.pinned (OpenSpec.ofChange fnExactIsOrderedSpec)

/-- ITS FALSE NEIGHBOUR: 'it returns false'. Refute it at one input. -/
def fnExactIsOrderedWrong : ChangeSpec := { name := "fnExactIsOrdered", fn := fun _ => fun
  | [d] => { results := [.lit (.bool false)], args := [d] }
  | _ => none }
def FnExactIsOrderedWrongFalsely : Prop := fnExactIsOrderedRow.holds Tryd.pinned (OpenSpec.ofChange fnExactIsOrderedWrong)

/-- 'laws.FnExactFirstOvertaken': WHATEVER THE INPUT: true; the input reads as it did. -/
def fnExactFirstOvertakenSpec : ChangeSpec := { name := "fnExactFirstOvertaken", fn := fun _ => fun
  | [d] => { results := [.lit (.bool true)], args := [d] }
  | _ => none }
def fnExactFirstOvertakenRow : OpenClaim := { program := "ytfjpejdlgmlmhaadoor", sum := "8605e434690541f5ee23d2de671309e7b4449a5f0d1bbb0435b3d2f81802d9f6", func := "loop.example/g01218/laws.FnExactFirstOvertaken", spec := "fnExactFirstOvertaken", inPlace := ["internal/bytealg.IndexByteString", "internal/bytealg.IndexString"], named := ["unicode/utf8.first", "unicode/utf8.acceptRanges", "internal/bytealg.MaxLen"], plainKeys := false, apart := false, laid := [("unicode/utf8.acceptRanges", laid_unicode_utf8_acceptRanges), ("unicode/utf8.first", laid_unicode_utf8_first)] }
def FnExactFirstOvertakenSaid : Prop := fnExactFirstOvertakenRow.holds Tryd.pinned (OpenSpec.ofChange fnExactFirstOvertakenSpec)

/-- ITS FALSE NEIGHBOUR: 'it returns false'. Refute it at one input. -/
def fnExactFirstOvertakenWrong : ChangeSpec := { name := "fnExactFirstOvertaken", fn := fun _ => fun
  | [d] => { results := [.lit (.bool false)], args := [d] }
  | _ => none }
def FnExactFirstOvertakenWrongFalsely : Prop := fnExactFirstOvertakenRow.holds Tryd.pinned (OpenSpec.ofChange fnExactFirstOvertakenWrong)

/-- 'laws.FnExactCountsOfVotes': WHATEVER THE INPUT: true; the input reads as it did. -/
def fnExactCountsOfVotesSpec : ChangeSpec := { name := "fnExactCountsOfVotes", fn := fun _ => fun
  | [d] => { results := [.lit (.bool true)], args := [d] }
  | _ => none }
def fnExactCountsOfVotesRow : OpenClaim := { program := "ytfjpejdlgmlmhaadoor", sum := "8605e434690541f5ee23d2de671309e7b4449a5f0d1bbb0435b3d2f81802d9f6", func := "loop.example/g01218/laws.FnExactCountsOfVotes", spec := "fnExactCountsOfVotes", inPlace := ["internal/bytealg.IndexByteString", "internal/bytealg.IndexString"], named := ["unicode/utf8.first", "unicode/utf8.acceptRanges", "internal/bytealg.MaxLen"], plainKeys := false, apart := false, laid := [("unicode/utf8.acceptRanges", laid_unicode_utf8_acceptRanges), ("unicode/utf8.first", laid_unicode_utf8_first)] }
def FnExactCountsOfVotesSaid : Prop := fnExactCountsOfVotesRow.holds Tryd.pinned (OpenSpec.ofChange fnExactCountsOfVotesSpec)

/-- ITS FALSE NEIGHBOUR: 'it returns false'. Refute it at one input. -/
def fnExactCountsOfVotesWrong : ChangeSpec := { name := "fnExactCountsOfVotes", fn := fun _ => fun
  | [d] => { results := [.lit (.bool false)], args := [d] }
  | _ => none }
def FnExactCountsOfVotesWrongFalsely : Prop := fnExactCountsOfVotesRow.holds Tryd.pinned (OpenSpec.ofChange fnExactCountsOfVotesWrong)

/-- 'laws.FnExactWinnersOf': WHATEVER THE INPUT: true; the input reads as it did. -/
def fnExactWinnersOfSpec : ChangeSpec := { name := "fnExactWinnersOf", fn := fun _ => fun
  | [d] => { results := [.lit (.bool true)], args := [d] }
  | _ => none }
def fnExactWinnersOfRow : OpenClaim := { program := "ytfjpejdlgmlmhaadoor", sum := "8605e434690541f5ee23d2de671309e7b4449a5f0d1bbb0435b3d2f81802d9f6", func := "loop.example/g01218/laws.FnExactWinnersOf", spec := "fnExactWinnersOf", inPlace := ["internal/bytealg.IndexByteString", "internal/bytealg.IndexString"], named := ["unicode/utf8.first", "unicode/utf8.acceptRanges", "internal/bytealg.MaxLen"], plainKeys := false, apart := false, laid := [("unicode/utf8.acceptRanges", laid_unicode_utf8_acceptRanges), ("unicode/utf8.first", laid_unicode_utf8_first)] }
def FnExactWinnersOfSaid : Prop := fnExactWinnersOfRow.holds Tryd.pinned (OpenSpec.ofChange fnExactWinnersOfSpec)

/-- ITS FALSE NEIGHBOUR: 'it returns false'. Refute it at one input. -/
def fnExactWinnersOfWrong : ChangeSpec := { name := "fnExactWinnersOf", fn := fun _ => fun
  | [d] => { results := [.lit (.bool false)], args := [d] }
  | _ => none }
def FnExactWinnersOfWrongFalsely : Prop := fnExactWinnersOfRow.holds Tryd.pinned (OpenSpec.ofChange fnExactWinnersOfWrong)

/-- 'laws.FnExactLeadersAlong': WHATEVER THE INPUT: true; the input reads as it did. -/
def fnExactLeadersAlongSpec : ChangeSpec := { name := "fnExactLeadersAlong", fn := fun _ => fun
  | [d] => { results := [.lit (.bool true)], args := [d] }
  | _ => none }
def fnExactLeadersAlongRow : OpenClaim := { program := "ytfjpejdlgmlmhaadoor", sum := "8605e434690541f5ee23d2de671309e7b4449a5f0d1bbb0435b3d2f81802d9f6", func := "loop.example/g01218/laws.FnExactLeadersAlong", spec := "fnExactLeadersAlong", inPlace := ["internal/bytealg.IndexByteString", "internal/bytealg.IndexString"], named := ["unicode/utf8.first", "unicode/utf8.acceptRanges", "internal/bytealg.MaxLen"], plainKeys := false, apart := false, laid := [("unicode/utf8.acceptRanges", laid_unicode_utf8_acceptRanges), ("unicode/utf8.first", laid_unicode_utf8_first)] }
def FnExactLeadersAlongSaid : Prop := fnExactLeadersAlongRow.holds Tryd.pinned (OpenSpec.ofChange fnExactLeadersAlongSpec)

/-- ITS FALSE NEIGHBOUR: 'it returns false'. Refute it at one input. -/
def fnExactLeadersAlongWrong : ChangeSpec := { name := "fnExactLeadersAlong", fn := fun _ => fun
  | [d] => { results := [.lit (.bool false)], args := [d] }
  | _ => none }
def FnExactLeadersAlongWrongFalsely : Prop := fnExactLeadersAlongRow.holds Tryd.pinned (OpenSpec.ofChange fnExactLeadersAlongWrong)

/-- 'laws.FnExactTableOfVotes': WHATEVER THE INPUT: true; the input reads as it did. -/
def fnExactTableOfVotesSpec : ChangeSpec := { name := "fnExactTableOfVotes", fn := fun _ => fun
  | [d] => { results := [.lit (.bool true)], args := [d] }
  | _ => none }
def fnExactTableOfVotesRow : OpenClaim := { program := "ytfjpejdlgmlmhaadoor", sum := "8605e434690541f5ee23d2de671309e7b4449a5f0d1bbb0435b3d2f81802d9f6", func := "loop.example/g01218/laws.FnExactTableOfVotes", spec := "fnExactTableOfVotes", inPlace := ["internal/bytealg.IndexByteString", "internal/bytealg.IndexString"], named := ["unicode/utf8.first", "unicode/utf8.acceptRanges", "internal/bytealg.MaxLen"], plainKeys := false, apart := false, laid := [("unicode/utf8.acceptRanges", laid_unicode_utf8_acceptRanges), ("unicode/utf8.first", laid_unicode_utf8_first)] }
def FnExactTableOfVotesSaid : Prop := fnExactTableOfVotesRow.holds Tryd.pinned (OpenSpec.ofChange fnExactTableOfVotesSpec)

/-- ITS FALSE NEIGHBOUR: 'it returns false'. Refute it at one input. -/
def fnExactTableOfVotesWrong : ChangeSpec := { name := "fnExactTableOfVotes", fn := fun _ => fun
  | [d] => { results := [.lit (.bool false)], args := [d] }
  | _ => none }
def FnExactTableOfVotesWrongFalsely : Prop := fnExactTableOfVotesRow.holds Tryd.pinned (OpenSpec.ofChange fnExactTableOfVotesWrong)

/-- 'laws.FnExactVotesOfTable': WHATEVER THE INPUT: true; the input reads as it did. -/
def fnExactVotesOfTableSpec : ChangeSpec := { name := "fnExactVotesOfTable", fn := fun _ => fun
  | [d] => { results := [.lit (.bool true)], args := [d] }
  | _ => none }
def fnExactVotesOfTableRow : OpenClaim := { program := "ytfjpejdlgmlmhaadoor", sum := "8605e434690541f5ee23d2de671309e7b4449a5f0d1bbb0435b3d2f81802d9f6", func := "loop.example/g01218/laws.FnExactVotesOfTable", spec := "fnExactVotesOfTable", inPlace := ["internal/bytealg.IndexByteString", "internal/bytealg.IndexString"], named := ["unicode/utf8.first", "unicode/utf8.acceptRanges", "internal/bytealg.MaxLen"], plainKeys := false, apart := false, laid := [("unicode/utf8.acceptRanges", laid_unicode_utf8_acceptRanges), ("unicode/utf8.first", laid_unicode_utf8_first)] }
def FnExactVotesOfTableSaid : Prop := fnExactVotesOfTableRow.holds Tryd.pinned (OpenSpec.ofChange fnExactVotesOfTableSpec)

/-- ITS FALSE NEIGHBOUR: 'it returns false'. Refute it at one input. -/
def fnExactVotesOfTableWrong : ChangeSpec := { name := "fnExactVotesOfTable", fn := fun _ => fun
  | [d] => { results := [.lit (.bool false)], args := [d] }
  | _ => none }
def FnExactVotesOfTableWrongFalsely : Prop := fnExactVotesOfTableRow.holds Tryd.pinned (OpenSpec.ofChange fnExactVotesOfTableWrong)

/-- 'laws.FnExactRankOrdered': WHATEVER THE INPUT: true; the input reads as it did. -/
def fnExactRankOrderedSpec : ChangeSpec := { name := "fnExactRankOrdered", fn := fun _ => fun
  | [d] => { results := [.lit (.bool true)], args := [d] }
  | _ => none }
def fnExactRankOrderedRow : OpenClaim := { program := "ytfjpejdlgmlmhaadoor", sum := "8605e434690541f5ee23d2de671309e7b4449a5f0d1bbb0435b3d2f81802d9f6", func := "loop.example/g01218/laws.FnExactRankOrdered", spec := "fnExactRankOrdered", inPlace := ["internal/bytealg.IndexByteString", "internal/bytealg.IndexString"], unfollowed := true, recurses := true, named := ["unicode/utf8.first", "unicode/utf8.acceptRanges", "internal/bytealg.MaxLen"], plainKeys := false, apart := false, laid := [("unicode/utf8.acceptRanges", laid_unicode_utf8_acceptRanges), ("unicode/utf8.first", laid_unicode_utf8_first)] }
def FnExactRankOrderedSaid : Prop := fnExactRankOrderedRow.holds Tryd.pinned (OpenSpec.ofChange fnExactRankOrderedSpec)

/-- ITS FALSE NEIGHBOUR: 'it returns false'. Refute it at one input. -/
def fnExactRankOrderedWrong : ChangeSpec := { name := "fnExactRankOrdered", fn := fun _ => fun
  | [d] => { results := [.lit (.bool false)], args := [d] }
  | _ => none }
def FnExactRankOrderedWrongFalsely : Prop := fnExactRankOrderedRow.holds Tryd.pinned (OpenSpec.ofChange fnExactRankOrderedWrong)

/-- 'laws.FnExactColumnVotes': WHATEVER THE INPUT: true; the input reads as it did. -/
def fnExactColumnVotesSpec : ChangeSpec := { name := "fnExactColumnVotes", fn := fun _ => fun
  | [d] => { results := [.lit (.bool true)], args := [d] }
  | _ => none }
def fnExactColumnVotesRow : OpenClaim := { program := "ytfjpejdlgmlmhaadoor", sum := "8605e434690541f5ee23d2de671309e7b4449a5f0d1bbb0435b3d2f81802d9f6", func := "loop.example/g01218/laws.FnExactColumnVotes", spec := "fnExactColumnVotes", inPlace := ["internal/bytealg.IndexByteString", "internal/bytealg.IndexString", "internal/bytealg.CountString"], named := ["unicode/utf8.first", "unicode/utf8.acceptRanges", "internal/bytealg.MaxLen"], plainKeys := false, apart := false, laid := [("unicode/utf8.acceptRanges", laid_unicode_utf8_acceptRanges), ("unicode/utf8.first", laid_unicode_utf8_first)] }
def FnExactColumnVotesSaid : Prop := fnExactColumnVotesRow.holds Tryd.pinned (OpenSpec.ofChange fnExactColumnVotesSpec)

/-- ITS FALSE NEIGHBOUR: 'it returns false'. Refute it at one input. -/
def fnExactColumnVotesWrong : ChangeSpec := { name := "fnExactColumnVotes", fn := fun _ => fun
  | [d] => { results := [.lit (.bool false)], args := [d] }
  | _ => none }
def FnExactColumnVotesWrongFalsely : Prop := fnExactColumnVotesRow.holds Tryd.pinned (OpenSpec.ofChange fnExactColumnVotesWrong)

/-- 'laws.FnVotesTold': WHATEVER THE INPUT: true; the input reads as it did. -/
def fnVotesToldSpec : ChangeSpec := { name := "fnVotesTold", fn := fun _ => fun
  | [d1, d2] => { results := [.lit (.bool true)], args := [d1, d2] }
  | _ => none }
def fnVotesToldRow : OpenClaim := { program := "ytfjpejdlgmlmhaadoor", sum := "8605e434690541f5ee23d2de671309e7b4449a5f0d1bbb0435b3d2f81802d9f6", func := "loop.example/g01218/laws.FnVotesTold", spec := "fnVotesTold", inPlace := ["internal/bytealg.IndexByteString", "internal/bytealg.IndexString", "internal/bytealg.CountString"], unfollowed := true, recurses := true, named := ["unicode/utf8.first", "unicode/utf8.acceptRanges", "internal/bytealg.MaxLen"], plainKeys := false, apart := false, laid := [("unicode/utf8.acceptRanges", laid_unicode_utf8_acceptRanges), ("unicode/utf8.first", laid_unicode_utf8_first)] }
def FnVotesToldSaid : Prop := fnVotesToldRow.holds Tryd.pinned (OpenSpec.ofChange fnVotesToldSpec)

/-- ITS FALSE NEIGHBOUR: 'it returns false'. Refute it at one input. -/
def fnVotesToldWrong : ChangeSpec := { name := "fnVotesTold", fn := fun _ => fun
  | [d1, d2] => { results := [.lit (.bool false)], args := [d1, d2] }
  | _ => none }
def FnVotesToldWrongFalsely : Prop := fnVotesToldRow.holds Tryd.pinned (OpenSpec.ofChange fnVotesToldWrong)

/- THE SECOND FORM. 'bulk': how many values and letters a reading holds, each counted each time it is reached (what is shared counts as often as it is met; a slice's spare places count too). A statement '..UptoSaid' is the law's where the arguments, and the package variables that the reading takes, are together of bulk at most 1048576: NARROWER than '..Said'. Prove '..Said' where nothing that the law and all that it calls make is longer than what came in: it says more and counts as full. Else prove '..UptoSaid'. A law counts once. -/
mutual
def uptoBulk {H : Type} : DataW H → Nat
  | .lit (.string bytes) => bytes.length + 1
  | .lit _ => 1
  | .nil => 1
  | .ptr d => uptoBulk d + 1
  | .slice elems spare => uptoBulkAll elems + uptoBulkAll spare + 1
  | .agg parts => uptoBulkAll parts + 1
  | .iface _ d => uptoBulk d + 1
  | .map entries => uptoBulkEntries entries + 1
  | .held _ => 1
def uptoBulkAll {H : Type} : List (DataW H) → Nat
  | [] => 0
  | d :: r => uptoBulk d + uptoBulkAll r
def uptoBulkEntries {H : Type} : List (Lit × DataW H) → Nat
  | [] => 0
  | x :: r => uptoBulkEntry x + uptoBulkEntries r
def uptoBulkEntry {H : Type} : Lit × DataW H → Nat
  | (.string bytes, d) => bytes.length + uptoBulk d + 1
  | (_, d) => uptoBulk d + 1
 end
def uptoSmall : (H : Type) → List (DataW H) → Bool := fun _ ds => decide (uptoBulkAll ds ≤ 1048576)
def OpenSpec.upto (s : _root_.Go.ChangeSpec) : _root_.Go.OpenSpec := { _root_.Go.OpenSpec.ofChange s with cond := some uptoSmall }

/-- 'laws.FnExactAreVotes', WHERE WHAT IT READS IS OF BULK AT MOST 1048576: true; the input reads as it did. -/
def fnExactAreVotesUptoRow : OpenClaim := { program := "ytfjpejdlgmlmhaadoor", sum := "8605e434690541f5ee23d2de671309e7b4449a5f0d1bbb0435b3d2f81802d9f6", func := "loop.example/g01218/laws.FnExactAreVotes", spec := "fnExactAreVotes", inPlace := ["internal/bytealg.IndexByteString", "internal/bytealg.IndexString"], named := ["unicode/utf8.first", "unicode/utf8.acceptRanges", "internal/bytealg.MaxLen"], plainKeys := false, apart := false, laid := [("unicode/utf8.acceptRanges", laid_unicode_utf8_acceptRanges), ("unicode/utf8.first", laid_unicode_utf8_first)], narrowed := true }
def FnExactAreVotesUptoSaid : Prop := fnExactAreVotesUptoRow.holds Tryd.pinned (OpenSpec.upto fnExactAreVotesSpec)

/-- 'laws.FnExactReverseVotes', WHERE WHAT IT READS IS OF BULK AT MOST 1048576: true; the input reads as it did. -/
def fnExactReverseVotesUptoRow : OpenClaim := { program := "ytfjpejdlgmlmhaadoor", sum := "8605e434690541f5ee23d2de671309e7b4449a5f0d1bbb0435b3d2f81802d9f6", func := "loop.example/g01218/laws.FnExactReverseVotes", spec := "fnExactReverseVotes", inPlace := ["internal/bytealg.IndexByteString", "internal/bytealg.IndexString"], named := ["unicode/utf8.first", "unicode/utf8.acceptRanges", "internal/bytealg.MaxLen"], plainKeys := false, apart := false, laid := [("unicode/utf8.acceptRanges", laid_unicode_utf8_acceptRanges), ("unicode/utf8.first", laid_unicode_utf8_first)], narrowed := true }
def FnExactReverseVotesUptoSaid : Prop := fnExactReverseVotesUptoRow.holds Tryd.pinned (OpenSpec.upto fnExactReverseVotesSpec)

/-- 'laws.FnExactIsOrdered', WHERE WHAT IT READS IS OF BULK AT MOST 1048576: true; the input reads as it did. -/
def fnExactIsOrderedUptoRow : OpenClaim := { program := "ytfjpejdlgmlmhaadoor", sum := "8605e434690541f5ee23d2de671309e7b4449a5f0d1bbb0435b3d2f81802d9f6", func := "loop.example/g01218/laws.FnExactIsOrdered", spec := "fnExactIsOrdered", inPlace := ["internal/bytealg.IndexByteString", "internal/bytealg.IndexString"], named := ["unicode/utf8.first", "unicode/utf8.acceptRanges", "internal/bytealg.MaxLen"], plainKeys := false, apart := false, laid := [("unicode/utf8.acceptRanges", laid_unicode_utf8_acceptRanges), ("unicode/utf8.first", laid_unicode_utf8_first)], narrowed := true }
def FnExactIsOrderedUptoSaid : Prop := fnExactIsOrderedUptoRow.holds Tryd.pinned (OpenSpec.upto fnExactIsOrderedSpec)

/-- 'laws.FnExactFirstOvertaken', WHERE WHAT IT READS IS OF BULK AT MOST 1048576: true; the input reads as it did. -/
def fnExactFirstOvertakenUptoRow : OpenClaim := { program := "ytfjpejdlgmlmhaadoor", sum := "8605e434690541f5ee23d2de671309e7b4449a5f0d1bbb0435b3d2f81802d9f6", func := "loop.example/g01218/laws.FnExactFirstOvertaken", spec := "fnExactFirstOvertaken", inPlace := ["internal/bytealg.IndexByteString", "internal/bytealg.IndexString"], named := ["unicode/utf8.first", "unicode/utf8.acceptRanges", "internal/bytealg.MaxLen"], plainKeys := false, apart := false, laid := [("unicode/utf8.acceptRanges", laid_unicode_utf8_acceptRanges), ("unicode/utf8.first", laid_unicode_utf8_first)], narrowed := true }
def FnExactFirstOvertakenUptoSaid : Prop := fnExactFirstOvertakenUptoRow.holds Tryd.pinned (OpenSpec.upto fnExactFirstOvertakenSpec)

/-- 'laws.FnExactCountsOfVotes', WHERE WHAT IT READS IS OF BULK AT MOST 1048576: true; the input reads as it did. -/
def fnExactCountsOfVotesUptoRow : OpenClaim := { program := "ytfjpejdlgmlmhaadoor", sum := "8605e434690541f5ee23d2de671309e7b4449a5f0d1bbb0435b3d2f81802d9f6", func := "loop.example/g01218/laws.FnExactCountsOfVotes", spec := "fnExactCountsOfVotes", inPlace := ["internal/bytealg.IndexByteString", "internal/bytealg.IndexString"], named := ["unicode/utf8.first", "unicode/utf8.acceptRanges", "internal/bytealg.MaxLen"], plainKeys := false, apart := false, laid := [("unicode/utf8.acceptRanges", laid_unicode_utf8_acceptRanges), ("unicode/utf8.first", laid_unicode_utf8_first)], narrowed := true }
def FnExactCountsOfVotesUptoSaid : Prop := fnExactCountsOfVotesUptoRow.holds Tryd.pinned (OpenSpec.upto fnExactCountsOfVotesSpec)

/-- 'laws.FnExactWinnersOf', WHERE WHAT IT READS IS OF BULK AT MOST 1048576: true; the input reads as it did. -/
def fnExactWinnersOfUptoRow : OpenClaim := { program := "ytfjpejdlgmlmhaadoor", sum := "8605e434690541f5ee23d2de671309e7b4449a5f0d1bbb0435b3d2f81802d9f6", func := "loop.example/g01218/laws.FnExactWinnersOf", spec := "fnExactWinnersOf", inPlace := ["internal/bytealg.IndexByteString", "internal/bytealg.IndexString"], named := ["unicode/utf8.first", "unicode/utf8.acceptRanges", "internal/bytealg.MaxLen"], plainKeys := false, apart := false, laid := [("unicode/utf8.acceptRanges", laid_unicode_utf8_acceptRanges), ("unicode/utf8.first", laid_unicode_utf8_first)], narrowed := true }
def FnExactWinnersOfUptoSaid : Prop := fnExactWinnersOfUptoRow.holds Tryd.pinned (OpenSpec.upto fnExactWinnersOfSpec)

/-- 'laws.FnExactLeadersAlong', WHERE WHAT IT READS IS OF BULK AT MOST 1048576: true; the input reads as it did. -/
def fnExactLeadersAlongUptoRow : OpenClaim := { program := "ytfjpejdlgmlmhaadoor", sum := "8605e434690541f5ee23d2de671309e7b4449a5f0d1bbb0435b3d2f81802d9f6", func := "loop.example/g01218/laws.FnExactLeadersAlong", spec := "fnExactLeadersAlong", inPlace := ["internal/bytealg.IndexByteString", "internal/bytealg.IndexString"], named := ["unicode/utf8.first", "unicode/utf8.acceptRanges", "internal/bytealg.MaxLen"], plainKeys := false, apart := false, laid := [("unicode/utf8.acceptRanges", laid_unicode_utf8_acceptRanges), ("unicode/utf8.first", laid_unicode_utf8_first)], narrowed := true }
def FnExactLeadersAlongUptoSaid : Prop := fnExactLeadersAlongUptoRow.holds Tryd.pinned (OpenSpec.upto fnExactLeadersAlongSpec)

/-- 'laws.FnExactTableOfVotes', WHERE WHAT IT READS IS OF BULK AT MOST 1048576: true; the input reads as it did. -/
def fnExactTableOfVotesUptoRow : OpenClaim := { program := "ytfjpejdlgmlmhaadoor", sum := "8605e434690541f5ee23d2de671309e7b4449a5f0d1bbb0435b3d2f81802d9f6", func := "loop.example/g01218/laws.FnExactTableOfVotes", spec := "fnExactTableOfVotes", inPlace := ["internal/bytealg.IndexByteString", "internal/bytealg.IndexString"], named := ["unicode/utf8.first", "unicode/utf8.acceptRanges", "internal/bytealg.MaxLen"], plainKeys := false, apart := false, laid := [("unicode/utf8.acceptRanges", laid_unicode_utf8_acceptRanges), ("unicode/utf8.first", laid_unicode_utf8_first)], narrowed := true }
def FnExactTableOfVotesUptoSaid : Prop := fnExactTableOfVotesUptoRow.holds Tryd.pinned (OpenSpec.upto fnExactTableOfVotesSpec)

/-- 'laws.FnExactVotesOfTable', WHERE WHAT IT READS IS OF BULK AT MOST 1048576: true; the input reads as it did. -/
def fnExactVotesOfTableUptoRow : OpenClaim := { program := "ytfjpejdlgmlmhaadoor", sum := "8605e434690541f5ee23d2de671309e7b4449a5f0d1bbb0435b3d2f81802d9f6", func := "loop.example/g01218/laws.FnExactVotesOfTable", spec := "fnExactVotesOfTable", inPlace := ["internal/bytealg.IndexByteString", "internal/bytealg.IndexString"], named := ["unicode/utf8.first", "unicode/utf8.acceptRanges", "internal/bytealg.MaxLen"], plainKeys := false, apart := false, laid := [("unicode/utf8.acceptRanges", laid_unicode_utf8_acceptRanges), ("unicode/utf8.first", laid_unicode_utf8_first)], narrowed := true }
def FnExactVotesOfTableUptoSaid : Prop := fnExactVotesOfTableUptoRow.holds Tryd.pinned (OpenSpec.upto fnExactVotesOfTableSpec)

/-- 'laws.FnExactRankOrdered', WHERE WHAT IT READS IS OF BULK AT MOST 1048576: true; the input reads as it did. -/
def fnExactRankOrderedUptoRow : OpenClaim := { program := "ytfjpejdlgmlmhaadoor", sum := "8605e434690541f5ee23d2de671309e7b4449a5f0d1bbb0435b3d2f81802d9f6", func := "loop.example/g01218/laws.FnExactRankOrdered", spec := "fnExactRankOrdered", inPlace := ["internal/bytealg.IndexByteString", "internal/bytealg.IndexString"], unfollowed := true, recurses := true, named := ["unicode/utf8.first", "unicode/utf8.acceptRanges", "internal/bytealg.MaxLen"], plainKeys := false, apart := false, laid := [("unicode/utf8.acceptRanges", laid_unicode_utf8_acceptRanges), ("unicode/utf8.first", laid_unicode_utf8_first)], narrowed := true }
def FnExactRankOrderedUptoSaid : Prop := fnExactRankOrderedUptoRow.holds Tryd.pinned (OpenSpec.upto fnExactRankOrderedSpec)

/-- 'laws.FnExactColumnVotes', WHERE WHAT IT READS IS OF BULK AT MOST 1048576: true; the input reads as it did. -/
def fnExactColumnVotesUptoRow : OpenClaim := { program := "ytfjpejdlgmlmhaadoor", sum := "8605e434690541f5ee23d2de671309e7b4449a5f0d1bbb0435b3d2f81802d9f6", func := "loop.example/g01218/laws.FnExactColumnVotes", spec := "fnExactColumnVotes", inPlace := ["internal/bytealg.IndexByteString", "internal/bytealg.IndexString", "internal/bytealg.CountString"], named := ["unicode/utf8.first", "unicode/utf8.acceptRanges", "internal/bytealg.MaxLen"], plainKeys := false, apart := false, laid := [("unicode/utf8.acceptRanges", laid_unicode_utf8_acceptRanges), ("unicode/utf8.first", laid_unicode_utf8_first)], narrowed := true }
def FnExactColumnVotesUptoSaid : Prop := fnExactColumnVotesUptoRow.holds Tryd.pinned (OpenSpec.upto fnExactColumnVotesSpec)

/-- 'laws.FnVotesTold', WHERE WHAT IT READS IS OF BULK AT MOST 1048576: true; the input reads as it did. -/
def fnVotesToldUptoRow : OpenClaim := { program := "ytfjpejdlgmlmhaadoor", sum := "8605e434690541f5ee23d2de671309e7b4449a5f0d1bbb0435b3d2f81802d9f6", func := "loop.example/g01218/laws.FnVotesTold", spec := "fnVotesTold", inPlace := ["internal/bytealg.IndexByteString", "internal/bytealg.IndexString", "internal/bytealg.CountString"], unfollowed := true, recurses := true, named := ["unicode/utf8.first", "unicode/utf8.acceptRanges", "internal/bytealg.MaxLen"], plainKeys := false, apart := false, laid := [("unicode/utf8.acceptRanges", laid_unicode_utf8_acceptRanges), ("unicode/utf8.first", laid_unicode_utf8_first)], narrowed := true }
def FnVotesToldUptoSaid : Prop := fnVotesToldUptoRow.holds Tryd.pinned (OpenSpec.upto fnVotesToldSpec)

end Rows
end Go.Proofs.YtfjpejdlgmlmhaaDoor
