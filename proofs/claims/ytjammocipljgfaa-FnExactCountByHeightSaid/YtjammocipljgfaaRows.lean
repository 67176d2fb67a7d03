/-
  No cell of these rows narrows 'for every input' (looked for: loops, veiled, ifaces, maps, wideKeys, modest, calm, conditions, laid).
  DERIVED. THE GIVEN ROWS OF THIS SEAT. 13 by the template 'for every input the law returns true; each argument reads behind the call as it read before'; 0 by the template 'total and deterministic' (their statements: YtjammocipljgfaaTotals.lean).
  GIVEN WITH THE SEED: the statements are not yours to turn. If you find one false, say at which input.
  Laid BY PROGRAM, IN A SANDBOX (cutbox-rows.mjs): the forced cells as the released guide's own fill.sh prints them over the translation c9bee15de26a4706… (all of the seat's roots in one cut). By AI agents, Wed Nov 11 2026. No macro, syntax, notation, axiom, sorry.
-/
import Derived.Test.YtjammocipljgfaaChecked
import GoSem.Claim
import GoSem.ClaimJoined
import GoSem.ClaimMapViews
import Derived.JoinedTies
import Derived.KernelRfl
namespace Go.Proofs.Ytjammocipljgfaa
/- THE CELL 'sum', in the pinned program and in every row, IS THE sha256 OF THE DUMP (.gsa) THAT YtjammocipljgfaaProg.lean LOADS. Nothing in Lean hashes anything: it is a label: what it is worth is what the hold of that sum in a sandbox is worth. -/
noncomputable def Try.pinned : Pinned := { name := "ytjammocipljgfaa", sum := "c9bee15de26a47061759ac63b845e442b6109a676b6ff147890e3b4ba10c7afb", checked := Try.checked }
namespace Rows
def none {H : Type} : Left H := { results := [], args := [] }

/-- 'laws.FnExactFirstDesk': WHATEVER THE INPUT: true; the input reads as it did. -/
def fnExactFirstDeskSpec : ChangeSpec := { name := "fnExactFirstDesk", fn := fun _ => fun
  | [] => { results := [.lit (.bool true)], args := [] }
  | _ => none }
def fnExactFirstDeskRow : OpenClaim := { program := "ytjammocipljgfaa", sum := "c9bee15de26a47061759ac63b845e442b6109a676b6ff147890e3b4ba10c7afb", func := "loop.example/g01218/laws.FnExactFirstDesk", spec := "fnExactFirstDesk", plainKeys := false, apart := false }
def FnExactFirstDeskSaid : Prop := fnExactFirstDeskRow.holds Try.pinned (OpenSpec.ofChange fnExactFirstDeskSpec)

/-- ITS FALSE NEIGHBOUR: 'it returns false'. Refute it at one input. -/
def fnExactFirstDeskWrong : ChangeSpec := { name := "fnExactFirstDesk", fn := fun _ => fun
  | [] => { results := [.lit (.bool false)], args := [] }
  | _ => none }
def FnExactFirstDeskWrongFalsely : Prop := fnExactFirstDeskRow.holds Try.pinned (OpenSpec.ofChange fnExactFirstDeskWrong)

/-- 'laws.FnExactCountNeverBack': WHATEVER THE INPUT: true; the input reads as it did. -/
def fnExactCountNeverBackSpec : ChangeSpec := { name := "fnExactCountNeverBack", fn := fun _ => fun
  | [d] => { results := [.lit (.bool true)], args := [d] }
  | _ => none }
def fnExactCountNeverBackRow : OpenClaim := { program := "ytjammocipljgfaa", sum := "c9bee15de26a47061759ac63b845e442b6109a676b6ff147890e3b4ba10c7afb", func := "loop.example/g01218/laws.FnExactCountNeverBack", spec := "fnExactCountNeverBack", plainKeys := false, apart := false }
def FnExactCountNeverBackSaid : Prop := fnExactCountNeverBackRow.holds Try.pinned (OpenSpec.ofChange fnExactCountNeverBackSpec)

/-- ITS FALSE NEIGHBOUR: 'it returns false'. Refute it at one input. -/
def fnExactCountNeverBackWrong : ChangeSpec := { name := "fnExactCountNeverBack", fn := fun _ => fun
  | [d] => { results := [.lit (.bool false)], args := [d] }
  | _ => none }
def FnExactCountNeverBackWrongFalsely : Prop := fnExactCountNeverBackRow.holds Try.pinned (OpenSpec.ofChange fnExactCountNeverBackWrong)

/-- 'laws.FnExactCountGoodClosed': WHATEVER THE INPUT: true; the input reads as it did. -/
def fnExactCountGoodClosedSpec : ChangeSpec := { name := "fnExactCountGoodClosed", fn := fun _ => fun
  | [d] => { results := [.lit (.bool true)], args := [d] }
  | _ => none }
def fnExactCountGoodClosedRow : OpenClaim := { program := "ytjammocipljgfaa", sum := "c9bee15de26a47061759ac63b845e442b6109a676b6ff147890e3b4ba10c7afb", func := "loop.example/g01218/laws.FnExactCountGoodClosed", spec := "fnExactCountGoodClosed", plainKeys := false, apart := false }
def FnExactCountGoodClosedSaid : Prop := fnExactCountGoodClosedRow.holds Try.pinned (OpenSpec.ofChange fnExactCountGoodClosedSpec)

/-- ITS FALSE NEIGHBOUR: 'it returns false'. Refute it at one input. -/
def fnExactCountGoodClosedWrong : ChangeSpec := { name := "fnExactCountGoodClosed", fn := fun _ => fun
  | [d] => { results := [.lit (.bool false)], args := [d] }
  | _ => none }
def FnExactCountGoodClosedWrongFalsely : Prop := fnExactCountGoodClosedRow.holds Try.pinned (OpenSpec.ofChange fnExactCountGoodClosedWrong)

/-- 'laws.FnExactSumOfAreas': WHATEVER THE INPUT: true; the input reads as it did. -/
def fnExactSumOfAreasSpec : ChangeSpec := { name := "fnExactSumOfAreas", fn := fun _ => fun
  | [d] => { results := [.lit (.bool true)], args := [d] }
  | _ => none }
def fnExactSumOfAreasRow : OpenClaim := { program := "ytjammocipljgfaa", sum := "c9bee15de26a47061759ac63b845e442b6109a676b6ff147890e3b4ba10c7afb", func := "loop.example/g01218/laws.FnExactSumOfAreas", spec := "fnExactSumOfAreas", plainKeys := false, apart := false }
def FnExactSumOfAreasSaid : Prop := fnExactSumOfAreasRow.holds Try.pinned (OpenSpec.ofChange fnExactSumOfAreasSpec)

/-- ITS FALSE NEIGHBOUR: 'it returns false'. Refute it at one input. -/
def fnExactSumOfAreasWrong : ChangeSpec := { name := "fnExactSumOfAreas", fn := fun _ => fun
  | [d] => { results := [.lit (.bool false)], args := [d] }
  | _ => none }
def FnExactSumOfAreasWrongFalsely : Prop := fnExactSumOfAreasRow.holds Try.pinned (OpenSpec.ofChange fnExactSumOfAreasWrong)

/-- 'laws.FnExactSumOfHighest': WHATEVER THE INPUT: true; the input reads as it did. -/
def fnExactSumOfHighestSpec : ChangeSpec := { name := "fnExactSumOfHighest", fn := fun _ => fun
  | [d] => { results := [.lit (.bool true)], args := [d] }
  | _ => none }
def fnExactSumOfHighestRow : OpenClaim := { program := "ytjammocipljgfaa", sum := "c9bee15de26a47061759ac63b845e442b6109a676b6ff147890e3b4ba10c7afb", func := "loop.example/g01218/laws.FnExactSumOfHighest", spec := "fnExactSumOfHighest", unfollowed := true, recurses := true, plainKeys := false, apart := false }
def FnExactSumOfHighestSaid : Prop := fnExactSumOfHighestRow.holds Try.pinned (OpenSpec.ofChange fnExactSumOfHighestSpec)

/-- ITS FALSE NEIGHBOUR: 'it returns false'. Refute it at one input. -/
def fnExactSumOfHighestWrong : ChangeSpec := { name := "fnExactSumOfHighest", fn := fun _ => fun
  | [d] => { results := [.lit (.bool false)], args := [d] }
  | _ => none }
def FnExactSumOfHighestWrongFalsely : Prop := fnExactSumOfHighestRow.holds Try.pinned (OpenSpec.ofChange fnExactSumOfHighestWrong)

/-- 'laws.FnExactCountByArea': WHATEVER THE INPUT: true; the input reads as it did. -/
def fnExactCountByAreaSpec : ChangeSpec := { name := "fnExactCountByArea", fn := fun _ => fun
  | [d] => { results := [.lit (.bool true)], args := [d] }
  | _ => none }
def fnExactCountByAreaRow : OpenClaim := { program := "ytjammocipljgfaa", sum := "c9bee15de26a47061759ac63b845e442b6109a676b6ff147890e3b4ba10c7afb", func := "loop.example/g01218/laws.FnExactCountByArea", spec := "fnExactCountByArea", unfollowed := true, recurses := true, plainKeys := false, apart := false }
def FnExactCountByAreaSaid : Prop := fnExactCountByAreaRow.holds Try.pinned (OpenSpec.ofChange fnExactCountByAreaSpec)

/-- ITS FALSE NEIGHBOUR: 'it returns false'. Refute it at one input. -/
def fnExactCountByAreaWrong : ChangeSpec := { name := "fnExactCountByArea", fn := fun _ => fun
  | [d] => { results := [.lit (.bool false)], args := [d] }
  | _ => none }
def FnExactCountByAreaWrongFalsely : Prop := fnExactCountByAreaRow.holds Try.pinned (OpenSpec.ofChange fnExactCountByAreaWrong)

/-- 'laws.FnExactCountByAbove': WHATEVER THE INPUT: true; the input reads as it did. -/
def fnExactCountByAboveSpec : ChangeSpec := { name := "fnExactCountByAbove", fn := fun _ => fun
  | [d] => { results := [.lit (.bool true)], args := [d] }
  | _ => none }
def fnExactCountByAboveRow : OpenClaim := { program := "ytjammocipljgfaa", sum := "c9bee15de26a47061759ac63b845e442b6109a676b6ff147890e3b4ba10c7afb", func := "loop.example/g01218/laws.FnExactCountByAbove", spec := "fnExactCountByAbove", unfollowed := true, recurses := true, plainKeys := false, apart := false }
def FnExactCountByAboveSaid : Prop := fnExactCountByAboveRow.holds Try.pinned (OpenSpec.ofChange fnExactCountByAboveSpec)

/-- ITS FALSE NEIGHBOUR: 'it returns false'. Refute it at one input. -/
def fnExactCountByAboveWrong : ChangeSpec := { name := "fnExactCountByAbove", fn := fun _ => fun
  | [d] => { results := [.lit (.bool false)], args := [d] }
  | _ => none }
def FnExactCountByAboveWrongFalsely : Prop := fnExactCountByAboveRow.holds Try.pinned (OpenSpec.ofChange fnExactCountByAboveWrong)

/-- 'laws.FnExactCountByLastReturn': WHATEVER THE INPUT: true; the input reads as it did. -/
def fnExactCountByLastReturnSpec : ChangeSpec := { name := "fnExactCountByLastReturn", fn := fun _ => fun
  | [d] => { results := [.lit (.bool true)], args := [d] }
  | _ => none }
def fnExactCountByLastReturnRow : OpenClaim := { program := "ytjammocipljgfaa", sum := "c9bee15de26a47061759ac63b845e442b6109a676b6ff147890e3b4ba10c7afb", func := "loop.example/g01218/laws.FnExactCountByLastReturn", spec := "fnExactCountByLastReturn", unfollowed := true, recurses := true, plainKeys := false, apart := false }
def FnExactCountByLastReturnSaid : Prop := fnExactCountByLastReturnRow.holds Try.pinned (OpenSpec.ofChange fnExactCountByLastReturnSpec)

/-- ITS FALSE NEIGHBOUR: 'it returns false'. Refute it at one input. -/
def fnExactCountByLastReturnWrong : ChangeSpec := { name := "fnExactCountByLastReturn", fn := fun _ => fun
  | [d] => { results := [.lit (.bool false)], args := [d] }
  | _ => none }
def FnExactCountByLastReturnWrongFalsely : Prop := fnExactCountByLastReturnRow.holds Try.pinned (OpenSpec.ofChange fnExactCountByLastReturnWrong)

/-- 'laws.FnExactCountByPeaks': WHATEVER THE INPUT: true; the input reads as it did. -/
def fnExactCountByPeaksSpec : ChangeSpec := { name := "fnExactCountByPeaks", fn := fun _ => fun
  | [d] => { results := [.lit (.bool true)], args := [d] }
  | _ => none }
def fnExactCountByPeaksRow : OpenClaim := { program := "ytjammocipljgfaa", sum := "c9bee15de26a47061759ac63b845e442b6109a676b6ff147890e3b4ba10c7afb", func := "loop.example/g01218/laws.FnExactCountByPeaks", spec := "fnExactCountByPeaks", unfollowed := true, recurses := true, plainKeys := false, apart := false }
def FnExactCountByPeaksSaid : Prop := fnExactCountByPeaksRow.holds Try.pinned (OpenSpec.ofChange fnExactCountByPeaksSpec)

/-- ITS FALSE NEIGHBOUR: 'it returns false'. Refute it at one input. -/
def fnExactCountByPeaksWrong : ChangeSpec := { name := "fnExactCountByPeaks", fn := fun _ => fun
  | [d] => { results := [.lit (.bool false)], args := [d] }
  | _ => none }
def FnExactCountByPeaksWrongFalsely : Prop := fnExactCountByPeaksRow.holds Try.pinned (OpenSpec.ofChange fnExactCountByPeaksWrong)

/-- 'laws.FnExactCountByReturns': WHATEVER THE INPUT: true; the input reads as it did. -/
def fnExactCountByReturnsSpec : ChangeSpec := { name := "fnExactCountByReturns", fn := fun _ => fun
  | [d] => { results := [.lit (.bool true)], args := [d] }
  | _ => none }
def fnExactCountByReturnsRow : OpenClaim := { program := "ytjammocipljgfaa", sum := "c9bee15de26a47061759ac63b845e442b6109a676b6ff147890e3b4ba10c7afb", func := "loop.example/g01218/laws.FnExactCountByReturns", spec := "fnExactCountByReturns", unfollowed := true, recurses := true, plainKeys := false, apart := false }
def FnExactCountByReturnsSaid : Prop := fnExactCountByReturnsRow.holds Try.pinned (OpenSpec.ofChange fnExactCountByReturnsSpec)

/-- ITS FALSE NEIGHBOUR: 'it returns false'. Refute it at one input. -/
def fnExactCountByReturnsWrong : ChangeSpec := { name := "fnExactCountByReturns", fn := fun _ => fun
  | [d] => { results := [.lit (.bool false)], args := [d] }
  | _ => none }
def FnExactCountByReturnsWrongFalsely : Prop := fnExactCountByReturnsRow.holds Try.pinned (OpenSpec.ofChange fnExactCountByReturnsWrong)

/-- 'laws.FnExactCountByHeight': WHATEVER THE INPUT: true; the input reads as it did. -/
def fnExactCountByHeightSpec : ChangeSpec := { name := "fnExactCountByHeight", fn := fun _ => fun
  | [d] => { results := [.lit (.bool true)], args := [d] }
  | _ => none }
def fnExactCountByHeightRow : OpenClaim := { program := "ytjammocipljgfaa", sum := "c9bee15de26a47061759ac63b845e442b6109a676b6ff147890e3b4ba10c7afb", func := "loop.example/g01218/laws.FnExactCountByHeight", spec := "fnExactCountByHeight", unfollowed := true, recurses := true, plainKeys := false, apart := false }
def FnExactCountByHeightSaid : Prop := fnExactCountByHeightRow.holds Try.pinned (OpenSpec.ofChange fnExactCountByHeightSpec)

/-- ITS FALSE NEIGHBOUR: 'it returns false'. Refute it at one input. -/
def fnExactCountByHeightWrong : ChangeSpec := { name := "fnExactCountByHeight", fn := fun _ => fun
  | [d] => { results := [.lit (.bool false)], args := [d] }
  | _ => none }
def FnExactCountByHeightWrongFalsely : Prop := fnExactCountByHeightRow.holds Try.pinned (OpenSpec.ofChange fnExactCountByHeightWrong)

/-- 'laws.FnExactCountByFirstRun': WHATEVER THE INPUT: true; the input reads as it did. -/
def fnExactCountByFirstRunSpec : ChangeSpec := { name := "fnExactCountByFirstRun", fn := fun _ => fun
  | [d] => { results := [.lit (.bool true)], args := [d] }
  | _ => none }
def fnExactCountByFirstRunRow : OpenClaim := { program := "ytjammocipljgfaa", sum := "c9bee15de26a47061759ac63b845e442b6109a676b6ff147890e3b4ba10c7afb", func := "loop.example/g01218/laws.FnExactCountByFirstRun", spec := "fnExactCountByFirstRun", unfollowed := true, recurses := true, plainKeys := false, apart := false }
def FnExactCountByFirstRunSaid : Prop := fnExactCountByFirstRunRow.holds Try.pinned (OpenSpec.ofChange fnExactCountByFirstRunSpec)

/-- ITS FALSE NEIGHBOUR: 'it returns false'. Refute it at one input. -/
def fnExactCountByFirstRunWrong : ChangeSpec := { name := "fnExactCountByFirstRun", fn := fun _ => fun
  | [d] => { results := [.lit (.bool false)], args := [d] }
  | _ => none }
def FnExactCountByFirstRunWrongFalsely : Prop := fnExactCountByFirstRunRow.holds Try.pinned (OpenSpec.ofChange fnExactCountByFirstRunWrong)

/-- 'laws.FnExactCountByRecords': WHATEVER THE INPUT: true; the input reads as it did. -/
def fnExactCountByRecordsSpec : ChangeSpec := { name := "fnExactCountByRecords", fn := fun _ => fun
  | [d] => { results := [.lit (.bool true)], args := [d] }
  | _ => none }
def fnExactCountByRecordsRow : OpenClaim := { program := "ytjammocipljgfaa", sum := "c9bee15de26a47061759ac63b845e442b6109a676b6ff147890e3b4ba10c7afb", func := "loop.example/g01218/laws.FnExactCountByRecords", spec := "fnExactCountByRecords", plainKeys := false, apart := false }
def FnExactCountByRecordsSaid : Prop := fnExactCountByRecordsRow.holds Try.pinned (OpenSpec.ofChange fnExactCountByRecordsSpec)

/-- ITS FALSE NEIGHBOUR: 'it returns false'. Refute it at one input. -/
def fnExactCountByRecordsWrong : ChangeSpec := { name := "fnExactCountByRecords", fn := fun _ => fun
  | [d] => { results := [.lit (.bool false)], args := [d] }
  | _ => none }
def FnExactCountByRecordsWrongFalsely : Prop := fnExactCountByRecordsRow.holds Try.pinned (OpenSpec.ofChange fnExactCountByRecordsWrong)

/- THE SECOND FORM. 'bulk': how many values and letters a reading holds, each counted each time it is reached (what is shared counts as often as it is met; a slice's spare places count too). A statement '..UptoSaid' is the law's where the arguments, and the package variables that the reading takes, are together of bulk at most 1048576: NARROWER than '..Said'. Prove '..Said' where nothing that the law and all that it calls make is longer than what came in: it says more and counts as full. Else prove '..UptoSaid'. A law counts once. -/
mutual
def uptoBulk {H : Type} : DataW H → Nat
  | .lit (.string bytes) => bytes.length + 1
  | .lit _ => 1
  | .nil => 1
  | .ptr d => uptoBulk d + 1
  | .slice elems spare => uptoBulkAll elems + uptoBulkAll spare + 1
  | .agg parts => uptoBulkAll parts + 1
  | .iface _ d => uptoBulk d + 1
  | .map entries => uptoBulkEntries entries + 1
  | .held _ => 1
def uptoBulkAll {H : Type} : List (DataW H) → Nat
  | [] => 0
  | d :: r => uptoBulk d + uptoBulkAll r
def uptoBulkEntries {H : Type} : List (Lit × DataW H) → Nat
  | [] => 0
  | x :: r => uptoBulkEntry x + uptoBulkEntries r
def uptoBulkEntry {H : Type} : Lit × DataW H → Nat
  | (.string bytes, d) => bytes.length + uptoBulk d + 1
  | (_, d) => uptoBulk d + 1
 end
def uptoSmall : (H : Type) → List (DataW H) → Bool := fun _ ds => decide (uptoBulkAll ds ≤ 1048576)
def OpenSpec.upto (s : _root_.Go.ChangeSpec) : _root_.Go.OpenSpec := { _root_.Go.OpenSpec.ofChange s with cond := some uptoSmall }

/-- 'laws.FnExactFirstDesk', WHERE WHAT IT READS IS OF BULK AT MOST 1048576: true; the input reads as it did. -/
def fnExactFirstDeskUptoRow : OpenClaim := { program := "ytjammocipljgfaa", sum := "c9bee15de26a47061759ac63b845e442b6109a676b6ff147890e3b4ba10c7afb", func := "loop.example/g01218/laws.FnExactFirstDesk", spec := "fnExactFirstDesk", plainKeys := false, apart := false, narrowed := true }
def FnExactFirstDeskUptoSaid : Prop := fnExactFirstDeskUptoRow.holds Try.pinned (OpenSpec.upto fnExactFirstDeskSpec)

/-- 'laws.FnExactCountNeverBack', WHERE WHAT IT READS IS OF BULK AT MOST 1048576: true; the input reads as it did. -/
def fnExactCountNeverBackUptoRow : OpenClaim := { program := "ytjammocipljgfaa", sum := "c9bee15de26a47061759ac63b845e442b6109a676b6ff147890e3b4ba10c7afb", func := "loop.example/g01218/laws.FnExactCountNeverBack", spec := "fnExactCountNeverBack", plainKeys := false, apart := false, narrowed := true }
def FnExactCountNeverBackUptoSaid : Prop := fnExactCountNeverBackUptoRow.holds Try.pinned (OpenSpec.upto fnExactCountNeverBackSpec)

/-- 'laws.FnExactCountGoodClosed', WHERE WHAT IT READS IS OF BULK AT MOST 1048576: true; the input reads as it did. -/
def fnExactCountGoodClosedUptoRow : OpenClaim := { program := "ytjammocipljgfaa", sum := "c9bee15de26a47061759ac63b845e442b6109a676b6ff147890e3b4ba10c7afb", func := "loop.example/g01218/laws.FnExactCountGoodClosed", spec := "fnExactCountGoodClosed", plainKeys := false, apart := false, narrowed := true }
def FnExactCountGoodClosedUptoSaid : Prop := fnExactCountGoodClosedUptoRow.holds Try.pinned (OpenSpec.upto fnExactCountGoodClosedSpec)

/-- 'laws.FnExactSumOfAreas', WHERE WHAT IT READS IS OF BULK AT MOST 1048576: true; the input reads as it did. -/
def fnExactSumOfAreasUptoRow : OpenClaim := { program := "ytjammocipljgfaa", sum := "c9bee15de26a47061759ac63b845e442b6109a676b6ff147890e3b4ba10c7afb", func := "loop.example/g01218/laws.FnExactSumOfAreas", spec := "fnExactSumOfAreas", plainKeys := false, apart := false, narrowed := true }
def FnExactSumOfAreasUptoSaid : Prop := fnExactSumOfAreasUptoRow.holds Try.pinned (OpenSpec.upto fnExactSumOfAreasSpec)

/-- 'laws.FnExactSumOfHighest', WHERE WHAT IT READS IS OF BULK AT MOST 1048576: true; the input reads as it did. -/
def fnExactSumOfHighestUptoRow : OpenClaim := { program := "ytjammocipljgfaa", sum := "c9bee15de26a47061759ac63b845e442b6109a676b6ff147890e3b4ba10c7afb", func := "loop.example/g01218/laws.FnExactSumOfHighest", spec := "fnExactSumOfHighest", unfollowed := true, recurses := true, plainKeys := false, apart := false, narrowed := true }
def FnExactSumOfHighestUptoSaid : Prop := fnExactSumOfHighestUptoRow.holds Try.pinned (OpenSpec.upto fnExactSumOfHighestSpec)

/-- 'laws.FnExactCountByArea', WHERE WHAT IT READS IS OF BULK AT MOST 1048576: true; the input reads as it did. -/
def fnExactCountByAreaUptoRow : OpenClaim := { program := "ytjammocipljgfaa", sum := "c9bee15de26a47061759ac63b845e442b6109a676b6ff147890e3b4ba10c7afb", func := "loop.example/g01218/laws.FnExactCountByArea", spec := "fnExactCountByArea", unfollowed := true, recurses := true, plainKeys := false, apart := false, narrowed := true }
def FnExactCountByAreaUptoSaid : Prop := fnExactCountByAreaUptoRow.holds Try.pinned (OpenSpec.upto fnExactCountByAreaSpec)

/-- 'laws.FnExactCountByAbove', WHERE WHAT IT READS IS OF BULK AT MOST 1048576: true; the input reads as it did. -/
def fnExactCountByAboveUptoRow : OpenClaim := { program := "ytjammocipljgfaa", sum := "c9bee15de26a47061759ac63b845e442b6109a676b6ff147890e3b4ba10c7afb", func := "loop.example/g01218/laws.FnExactCountByAbove", spec := "fnExactCountByAbove", unfollowed := true, recurses := true, plainKeys := false, apart := false, narrowed := true }
def FnExactCountByAboveUptoSaid : Prop := fnExactCountByAboveUptoRow.holds Try.pinned (OpenSpec.upto fnExactCountByAboveSpec)

/-- 'laws.FnExactCountByLastReturn', WHERE WHAT IT READS IS OF BULK AT MOST 1048576: true; the input reads as it did. -/
def fnExactCountByLastReturnUptoRow : OpenClaim := { program := "ytjammocipljgfaa", sum := "c9bee15de26a47061759ac63b845e442b6109a676b6ff147890e3b4ba10c7afb", func := "loop.example/g01218/laws.FnExactCountByLastReturn", spec := "fnExactCountByLastReturn", unfollowed := true, recurses := true, plainKeys := false, apart := false, narrowed := true }
def FnExactCountByLastReturnUptoSaid : Prop := fnExactCountByLastReturnUptoRow.holds Try.pinned (OpenSpec.upto fnExactCountByLastReturnSpec)

/-- 'laws.FnExactCountByPeaks', WHERE WHAT IT READS IS OF BULK AT MOST 1048576: true; the input reads as it did. -/
def fnExactCountByPeaksUptoRow : OpenClaim := { program := "ytjammocipljgfaa", sum := "c9bee15de26a47061759ac63b845e442b6109a676b6ff147890e3b4ba10c7afb", func := "loop.example/g01218/laws.FnExactCountByPeaks", spec := "fnExactCountByPeaks", unfollowed := true, recurses := true, plainKeys := false, apart := false, narrowed := true }
def FnExactCountByPeaksUptoSaid : Prop := fnExactCountByPeaksUptoRow.holds Try.pinned (OpenSpec.upto fnExactCountByPeaksSpec)

/-- 'laws.FnExactCountByReturns', WHERE WHAT IT READS IS OF BULK AT MOST 1048576: true; the input reads as it did. -/
def fnExactCountByReturnsUptoRow : OpenClaim := { program := "ytjammocipljgfaa", sum := "c9bee15de26a47061759ac63b845e442b6109a676b6ff147890e3b4ba10c7afb", func := "loop.example/g01218/laws.FnExactCountByReturns", spec := "fnExactCountByReturns", unfollowed := true, recurses := true, plainKeys := false, apart := false, narrowed := true }
def FnExactCountByReturnsUptoSaid : Prop := fnExactCountByReturnsUptoRow.holds Try.pinned (OpenSpec.upto fnExactCountByReturnsSpec)

/-- 'laws.FnExactCountByHeight', WHERE WHAT IT READS IS OF BULK AT MOST 1048576: true; the input reads as it did. -/
def fnExactCountByHeightUptoRow : OpenClaim := { program := "ytjammocipljgfaa", sum := "c9bee15de26a47061759ac63b845e442b6109a676b6ff147890e3b4ba10c7afb", func := "loop.example/g01218/laws.FnExactCountByHeight", spec := "fnExactCountByHeight", unfollowed := true, recurses := true, plainKeys := false, apart := false, narrowed := true }
def FnExactCountByHeightUptoSaid : Prop := fnExactCountByHeightUptoRow.holds Try.pinned (OpenSpec.upto fnExactCountByHeightSpec)

/-- 'laws.FnExactCountByFirstRun', WHERE WHAT IT READS IS OF BULK AT MOST 1048576: true; the input reads as it did. -/
def fnExactCountByFirstRunUptoRow : OpenClaim := { program := "ytjammocipljgfaa", sum := "c9bee15de26a47061759ac63b845e442b6109a676b6ff147890e3b4ba10c7afb", func := "loop.example/g01218/laws.FnExactCountByFirstRun", spec := "fnExactCountByFirstRun", unfollowed := true, recurses := true, plainKeys := false, apart := false, narrowed := true }
def FnExactCountByFirstRunUptoSaid : Prop := fnExactCountByFirstRunUptoRow.holds Try.pinned (OpenSpec.upto fnExactCountByFirstRunSpec)

/-- 'laws.FnExactCountByRecords', WHERE WHAT IT READS IS OF BULK AT MOST 1048576: true; the input reads as it did. -/
def fnExactCountByRecordsUptoRow : OpenClaim := { program := "ytjammocipljgfaa", sum := "c9bee15de26a47061759ac63b845e442b6109a676b6ff147890e3b4ba10c7afb", func := "loop.example/g01218/laws.FnExactCountByRecords", spec := "fnExactCountByRecords", plainKeys := false, apart := false, narrowed := true }
def FnExactCountByRecordsUptoSaid : Prop := fnExactCountByRecordsUptoRow.holds Try.pinned (OpenSpec.upto fnExactCountByRecordsSpec)

end Rows
end Go.Proofs.Ytjammocipljgfaa
