/-
  No cell of these rows narrows 'for every input' (looked for: loops, veiled, ifaces, maps, wideKeys, modest, calm, conditions, laid).
  DERIVED. THE GIVEN ROWS OF THIS SEAT. 7 by the template 'for every input the law returns true; each argument reads behind the call as it read before'; 0 by the template 'total and deterministic' (their statements: YtfjpejdlgmlmhaaTotals.lean).
  GIVEN WITH THE SEED: the statements are not yours to turn. If you find one false, say at which input.
  Laid BY PROGRAM, IN A SANDBOX (cutbox-rows.mjs): the forced cells as the released guide's own fill.sh prints them over the translation 969bb7338402065f… (all of the seat's roots in one cut). By AI agents, Wed Nov 11 2026. No macro, syntax, notation, axiom, sorry.
-/
import Derived.Test.YtfjpejdlgmlmhaaChecked
import GoSem.Claim
import GoSem.ClaimJoined
import GoSem.ClaimMapViews
import Derived.JoinedTies
import Derived.KernelRfl
namespace Go.Proofs.Ytfjpejdlgmlmhaa
/- THE CELL 'sum', in the pinned program and in every row, IS THE sha256 OF THE DUMP (.gsa) THAT YtfjpejdlgmlmhaaProg.lean LOADS. Nothing in Lean hashes anything: it is a label: what it is worth is what the hold of that sum in a sandbox is worth. -/
noncomputable def Try.pinned : Pinned := { name := "ytfjpejdlgmlmhaa", sum := "969bb7338402065f2e6737f1c80a2ec21c6f5b2eb370a512cfcba7e07c0c5f7e", checked := Try.checked }
namespace Rows
def none {H : Type} : Left H := { results := [], args := [] }

/-- 'laws.FnExactIsResult': WHATEVER THE INPUT: true; the input reads as it did. -/
def fnExactIsResultSpec : ChangeSpec := { name := "fnExactIsResult", fn := fun _ => fun
  | [d] => { results := [.lit (.bool true)], args := [d] }
  | _ => none }
def fnExactIsResultRow : OpenClaim := { program := "ytfjpejdlgmlmhaa", sum := "969bb7338402065f2e6737f1c80a2ec21c6f5b2eb370a512cfcba7e07c0c5f7e", func := "loop.example/g01218/laws.FnExactIsResult", spec := "fnExactIsResult", unfollowed := true, recurses := true, plainKeys := false, apart := false }
def FnExactIsResultSaid : Prop := fnExactIsResultRow.holds Try.pinned (OpenSpec.ofChange fnExactIsResultSpec)

/-- ITS FALSE NEIGHBOUR: 'it returns false'. Refute it at one input. -/
def fnExactIsResultWrong : ChangeSpec := { name := "fnExactIsResult", fn := fun _ => fun
  | [d] => { results := [.lit (.bool false)], args := [d] }
  | _ => none }
def FnExactIsResultWrongFalsely : Prop := fnExactIsResultRow.holds Try.pinned (OpenSpec.ofChange fnExactIsResultWrong)

/-- 'laws.FnExactColumnsOf': WHATEVER THE INPUT: true; the input reads as it did. -/
def fnExactColumnsOfSpec : ChangeSpec := { name := "fnExactColumnsOf", fn := fun _ => fun
  | [d] => { results := [.lit (.bool true)], args := [d] }
  | _ => none }
def fnExactColumnsOfRow : OpenClaim := { program := "ytfjpejdlgmlmhaa", sum := "969bb7338402065f2e6737f1c80a2ec21c6f5b2eb370a512cfcba7e07c0c5f7e", func := "loop.example/g01218/laws.FnExactColumnsOf", spec := "fnExactColumnsOf", unfollowed := true, recurses := true, plainKeys := false, apart := false }
def FnExactColumnsOfSaid : Prop := fnExactColumnsOfRow.holds Try.pinned (OpenSpec.ofChange fnExactColumnsOfSpec)

/-- ITS FALSE NEIGHBOUR: 'it returns false'. Refute it at one input. -/
def fnExactColumnsOfWrong : ChangeSpec := { name := "fnExactColumnsOf", fn := fun _ => fun
  | [d] => { results := [.lit (.bool false)], args := [d] }
  | _ => none }
def FnExactColumnsOfWrongFalsely : Prop := fnExactColumnsOfRow.holds Try.pinned (OpenSpec.ofChange fnExactColumnsOfWrong)

/-- 'laws.FnExactCountVotes': WHATEVER THE INPUT: true; the input reads as it did. -/
def fnExactCountVotesSpec : ChangeSpec := { name := "fnExactCountVotes", fn := fun _ => fun
  | [d] => { results := [.lit (.bool true)], args := [d] }
  | _ => none }
def fnExactCountVotesRow : OpenClaim := { program := "ytfjpejdlgmlmhaa", sum := "969bb7338402065f2e6737f1c80a2ec21c6f5b2eb370a512cfcba7e07c0c5f7e", func := "loop.example/g01218/laws.FnExactCountVotes", spec := "fnExactCountVotes", unfollowed := true, recurses := true, plainKeys := false, apart := false }
def FnExactCountVotesSaid : Prop := fnExactCountVotesRow.holds Try.pinned (OpenSpec.ofChange fnExactCountVotesSpec)

/-- ITS FALSE NEIGHBOUR: 'it returns false'. Refute it at one input. -/
def fnExactCountVotesWrong : ChangeSpec := { name := "fnExactCountVotes", fn := fun _ => fun
  | [d] => { results := [.lit (.bool false)], args := [d] }
  | _ => none }
def FnExactCountVotesWrongFalsely : Prop := fnExactCountVotesRow.holds Try.pinned (OpenSpec.ofChange fnExactCountVotesWrong)

/-- 'laws.FnExactHooksOf': WHATEVER THE INPUT: true; the input reads as it did. -/
def fnExactHooksOfSpec : ChangeSpec := { name := "fnExactHooksOf", fn := fun _ => fun
  | [d] => { results := [.lit (.bool true)], args := [d] }
  | _ => none }
def fnExactHooksOfRow : OpenClaim := { program := "ytfjpejdlgmlmhaa", sum := "969bb7338402065f2e6737f1c80a2ec21c6f5b2eb370a512cfcba7e07c0c5f7e", func := "loop.example/g01218/laws.FnExactHooksOf", spec := "fnExactHooksOf", unfollowed := true, recurses := true, plainKeys := false, apart := false }
def FnExactHooksOfSaid : Prop := fnExactHooksOfRow.holds Try.pinned (OpenSpec.ofChange fnExactHooksOfSpec)

/-- ITS FALSE NEIGHBOUR: 'it returns false'. Refute it at one input. -/
def fnExactHooksOfWrong : ChangeSpec := { name := "fnExactHooksOf", fn := fun _ => fun
  | [d] => { results := [.lit (.bool false)], args := [d] }
  | _ => none }
def FnExactHooksOfWrongFalsely : Prop := fnExactHooksOfRow.holds Try.pinned (OpenSpec.ofChange fnExactHooksOfWrong)

/-- 'laws.FnExactCountOrdered': WHATEVER THE INPUT: true; the input reads as it did. -/
def fnExactCountOrderedSpec : ChangeSpec := { name := "fnExactCountOrdered", fn := fun _ => fun
  | [d] => { results := [.lit (.bool true)], args := [d] }
  | _ => none }
def fnExactCountOrderedRow : OpenClaim := { program := "ytfjpejdlgmlmhaa", sum := "969bb7338402065f2e6737f1c80a2ec21c6f5b2eb370a512cfcba7e07c0c5f7e", func := "loop.example/g01218/laws.FnExactCountOrdered", spec := "fnExactCountOrdered", unfollowed := true, recurses := true, plainKeys := false, apart := false }
def FnExactCountOrderedSaid : Prop := fnExactCountOrderedRow.holds Try.pinned (OpenSpec.ofChange fnExactCountOrderedSpec)

/-- ITS FALSE NEIGHBOUR: 'it returns false'. Refute it at one input. -/
def fnExactCountOrderedWrong : ChangeSpec := { name := "fnExactCountOrdered", fn := fun _ => fun
  | [d] => { results := [.lit (.bool false)], args := [d] }
  | _ => none }
def FnExactCountOrderedWrongFalsely : Prop := fnExactCountOrderedRow.holds Try.pinned (OpenSpec.ofChange fnExactCountOrderedWrong)

/-- 'laws.FnExactOrderedOfRank': WHATEVER THE INPUT: true; the input reads as it did. -/
def fnExactOrderedOfRankSpec : ChangeSpec := { name := "fnExactOrderedOfRank", fn := fun _ => fun
  | [d1, d2] => { results := [.lit (.bool true)], args := [d1, d2] }
  | _ => none }
def fnExactOrderedOfRankRow : OpenClaim := { program := "ytfjpejdlgmlmhaa", sum := "969bb7338402065f2e6737f1c80a2ec21c6f5b2eb370a512cfcba7e07c0c5f7e", func := "loop.example/g01218/laws.FnExactOrderedOfRank", spec := "fnExactOrderedOfRank", unfollowed := true, recurses := true, plainKeys := false, apart := false }
def FnExactOrderedOfRankSaid : Prop := fnExactOrderedOfRankRow.holds Try.pinned (OpenSpec.ofChange fnExactOrderedOfRankSpec)

/-- ITS FALSE NEIGHBOUR: 'it returns false'. Refute it at one input. -/
def fnExactOrderedOfRankWrong : ChangeSpec := { name := "fnExactOrderedOfRank", fn := fun _ => fun
  | [d1, d2] => { results := [.lit (.bool false)], args := [d1, d2] }
  | _ => none }
def FnExactOrderedOfRankWrongFalsely : Prop := fnExactOrderedOfRankRow.holds Try.pinned (OpenSpec.ofChange fnExactOrderedOfRankWrong)

/-- 'laws.FnExactAllOrdered': WHATEVER THE INPUT: true; the input reads as it did. -/
def fnExactAllOrderedSpec : ChangeSpec := { name := "fnExactAllOrdered", fn := fun _ => fun
  | [d] => { results := [.lit (.bool true)], args := [d] }
  | _ => none }
def fnExactAllOrderedRow : OpenClaim := { program := "ytfjpejdlgmlmhaa", sum := "969bb7338402065f2e6737f1c80a2ec21c6f5b2eb370a512cfcba7e07c0c5f7e", func := "loop.example/g01218/laws.FnExactAllOrdered", spec := "fnExactAllOrdered", unfollowed := true, recurses := true, plainKeys := false, apart := false }
def FnExactAllOrderedSaid : Prop := fnExactAllOrderedRow.holds Try.pinned (OpenSpec.ofChange fnExactAllOrderedSpec)

/-- ITS FALSE NEIGHBOUR: 'it returns false'. Refute it at one input. -/
def fnExactAllOrderedWrong : ChangeSpec := { name := "fnExactAllOrdered", fn := fun _ => fun
  | [d] => { results := [.lit (.bool false)], args := [d] }
  | _ => none }
def FnExactAllOrderedWrongFalsely : Prop := fnExactAllOrderedRow.holds Try.pinned (OpenSpec.ofChange fnExactAllOrderedWrong)

/- THE SECOND FORM. 'bulk': how many values and letters a reading holds, each counted each time it is reached (what is shared counts as often as it is met; a slice's spare places count too). A statement '..UptoSaid' is the law's where the arguments, and the package variables that the reading takes, are together of bulk at most 1048576: NARROWER than '..Said'. Prove '..Said' where nothing that the law and all that it calls make is longer than what came in: it says more and counts as full. Else prove '..UptoSaid'. A law counts once. -/
mutual
def uptoBulk {H : Type} : DataW H → Nat
  | .lit (.string bytes) => bytes.length + 1
  | .lit _ => 1
  | .nil => 1
  | .ptr d => uptoBulk d + 1
  | .slice elems spare => uptoBulkAll elems + uptoBulkAll spare + 1
  | .agg parts => uptoBulkAll parts + 1
  | .iface _ d => uptoBulk d + 1
  | .map entries => uptoBulkEntries entries + 1
  | .held _ => 1
def uptoBulkAll {H : Type} : List (DataW H) → Nat
  | [] => 0
  | d :: r => uptoBulk d + uptoBulkAll r
def uptoBulkEntries {H : Type} : List (Lit × DataW H) → Nat
  | [] => 0
  | x :: r => uptoBulkEntry x + uptoBulkEntries r
def uptoBulkEntry {H : Type} : Lit × DataW H → Nat
  | (.string bytes, d) => bytes.length + uptoBulk d + 1
  | (_, d) => uptoBulk d + 1
 end
def uptoSmall : (H : Type) → List (DataW H) → Bool := fun _ ds => decide (uptoBulkAll ds ≤ 1048576)
def OpenSpec.upto (s : _root_.Go.ChangeSpec) : _root_.Go.OpenSpec := { _root_.Go.OpenSpec.ofChange s with cond := some uptoSmall }

/-- 'laws.FnExactIsResult', WHERE WHAT IT READS IS OF BULK AT MOST 1048576: true; the input reads as it did. -/
def fnExactIsResultUptoRow : OpenClaim := { program := "ytfjpejdlgmlmhaa", sum := "969bb7338402065f2e6737f1c80a2ec21c6f5b2eb370a512cfcba7e07c0c5f7e", func := "loop.example/g01218/laws.FnExactIsResult", spec := "fnExactIsResult", unfollowed := true, recurses := true, plainKeys := false, apart := false, narrowed := true }
def FnExactIsResultUptoSaid : Prop := fnExactIsResultUptoRow.holds Try.pinned (OpenSpec.upto fnExactIsResultSpec)

/-- 'laws.FnExactColumnsOf', WHERE WHAT IT READS IS OF BULK AT MOST 1048576: true; the input reads as it did. -/
def fnExactColumnsOfUptoRow : OpenClaim := { program := "ytfjpejdlgmlmhaa", sum := "969bb7338402065f2e6737f1c80a2ec21c6f5b2eb370a512cfcba7e07c0c5f7e", func := "loop.example/g01218/laws.FnExactColumnsOf", spec := "fnExactColumnsOf", unfollowed := true, recurses := true, plainKeys := false, apart := false, narrowed := true }
def FnExactColumnsOfUptoSaid : Prop := fnExactColumnsOfUptoRow.holds Try.pinned (OpenSpec.upto fnExactColumnsOfSpec)

/-- 'laws.FnExactCountVotes', WHERE WHAT IT READS IS OF BULK AT MOST 1048576: true; the input reads as it did. -/
def fnExactCountVotesUptoRow : OpenClaim := { program := "ytfjpejdlgmlmhaa", sum := "969bb7338402065f2e6737f1c80a2ec21c6f5b2eb370a512cfcba7e07c0c5f7e", func := "loop.example/g01218/laws.FnExactCountVotes", spec := "fnExactCountVotes", unfollowed := true, recurses := true, plainKeys := false, apart := false, narrowed := true }
def FnExactCountVotesUptoSaid : Prop := fnExactCountVotesUptoRow.holds Try.pinned (OpenSpec.upto fnExactCountVotesSpec)

/-- 'laws.FnExactHooksOf', WHERE WHAT IT READS IS OF BULK AT MOST 1048576: true; the input reads as it did. -/
def fnExactHooksOfUptoRow : OpenClaim := { program := "ytfjpejdlgmlmhaa", sum := "969bb7338402065f2e6737f1c80a2ec21c6f5b2eb370a512cfcba7e07c0c5f7e", func := "loop.example/g01218/laws.FnExactHooksOf", spec := "fnExactHooksOf", unfollowed := true, recurses := true, plainKeys := false, apart := false, narrowed := true }
def FnExactHooksOfUptoSaid : Prop := fnExactHooksOfUptoRow.holds Try.pinned (OpenSpec.upto fnExactHooksOfSpec)

/-- 'laws.FnExactCountOrdered', WHERE WHAT IT READS IS OF BULK AT MOST 1048576: true; the input reads as it did. -/
def fnExactCountOrderedUptoRow : OpenClaim := { program := "ytfjpejdlgmlmhaa", sum := "969bb7338402065f2e6737f1c80a2ec21c6f5b2eb370a512cfcba7e07c0c5f7e", func := "loop.example/g01218/laws.FnExactCountOrdered", spec := "fnExactCountOrdered", unfollowed := true, recurses := true, plainKeys := false, apart := false, narrowed := true }
def FnExactCountOrderedUptoSaid : Prop := fnExactCountOrderedUptoRow.holds Try.pinned (OpenSpec.upto fnExactCountOrderedSpec)

/-- 'laws.FnExactOrderedOfRank', WHERE WHAT IT READS IS OF BULK AT MOST 1048576: true; the input reads as it did. -/
def fnExactOrderedOfRankUptoRow : OpenClaim := { program := "ytfjpejdlgmlmhaa", sum := "969bb7338402065f2e6737f1c80a2ec21c6f5b2eb370a512cfcba7e07c0c5f7e", func := "loop.example/g01218/laws.FnExactOrderedOfRank", spec := "fnExactOrderedOfRank", unfollowed := true, recurses := true, plainKeys := false, apart := false, narrowed := true }
def FnExactOrderedOfRankUptoSaid : Prop := fnExactOrderedOfRankUptoRow.holds Try.pinned (OpenSpec.upto fnExactOrderedOfRankSpec)

/-- 'laws.FnExactAllOrdered', WHERE WHAT IT READS IS OF BULK AT MOST 1048576: true; the input reads as it did. -/
def fnExactAllOrderedUptoRow : OpenClaim := { program := "ytfjpejdlgmlmhaa", sum := "969bb7338402065f2e6737f1c80a2ec21c6f5b2eb370a512cfcba7e07c0c5f7e", func := "loop.example/g01218/laws.FnExactAllOrdered", spec := "fnExactAllOrdered", unfollowed := true, recurses := true, plainKeys := false, apart := false, narrowed := true }
def FnExactAllOrderedUptoSaid : Prop := fnExactAllOrderedUptoRow.holds Try.pinned (OpenSpec.upto fnExactAllOrderedSpec)

end Rows
end Go.Proofs.Ytfjpejdlgmlmhaa
