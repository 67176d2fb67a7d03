/-
  No cell of these rows narrows 'for every input' (looked for: loops, veiled, ifaces, maps, wideKeys, modest, calm, conditions, laid).
  DERIVED. THE GIVEN ROWS OF THIS SEAT. 4 by the template 'for every input the law returns true; each argument reads behind the call as it read before'; 0 by the template 'total and deterministic' (their statements: YtgpebahbeccniaaTotals.lean).
  GIVEN WITH THE SEED: the statements are not yours to turn. If you find one false, say at which input.
  Laid BY PROGRAM, IN A SANDBOX (cutbox-rows.mjs): the forced cells as the released guide's own fill.sh prints them over the translation a5d77d08d6ed3233… (all of the seat's roots in one cut). By AI agents, Wed Nov 11 2026. No macro, syntax, notation, axiom, sorry.
-/
import Derived.Test.YtgpebahbeccniaaChecked
import GoSem.Claim
import GoSem.ClaimJoined
import GoSem.ClaimMapViews
import Derived.JoinedTies
import Derived.KernelRfl
namespace Go.Proofs.Ytgpebahbeccniaa
/- THE CELL 'sum', in the pinned program and in every row, IS THE sha256 OF THE DUMP (.gsa) THAT YtgpebahbeccniaaProg.lean LOADS. Nothing in Lean hashes anything: it is a label: what it is worth is what the hold of that sum in a sandbox is worth. -/
noncomputable def Try.pinned : Pinned := { name := "ytgpebahbeccniaa", sum := "a5d77d08d6ed32334001032c228977b83c9342fff5faff01bc58b25123f872fc", checked := Try.checked }
namespace Rows
def none {H : Type} : Left H := { results := [], args := [] }

/-- 'laws.FnExactCountByArea': WHATEVER THE INPUT: true; the input reads as it did. -/
def fnExactCountByAreaSpec : ChangeSpec := { name := "fnExactCountByArea", fn := fun _ => fun
  | [d] => { results := [.lit (.bool true)], args := [d] }
  | _ => none }
def fnExactCountByAreaRow : OpenClaim := { program := "ytgpebahbeccniaa", sum := "a5d77d08d6ed32334001032c228977b83c9342fff5faff01bc58b25123f872fc", func := "loop.example/g01218/laws.FnExactCountByArea", spec := "fnExactCountByArea", unfollowed := true, recurses := true, plainKeys := false, apart := false }
def FnExactCountByAreaSaid : Prop := fnExactCountByAreaRow.holds Try.pinned (OpenSpec.ofChange fnExactCountByAreaSpec)

/-- ITS FALSE NEIGHBOUR: 'it returns false'. Refute it at one input. -/
def fnExactCountByAreaWrong : ChangeSpec := { name := "fnExactCountByArea", fn := fun _ => fun
  | [d] => { results := [.lit (.bool false)], args := [d] }
  | _ => none }
def FnExactCountByAreaWrongFalsely : Prop := fnExactCountByAreaRow.holds Try.pinned (OpenSpec.ofChange fnExactCountByAreaWrong)

/-- 'laws.FnExactOrderedOfRank': WHATEVER THE INPUT: true; the input reads as it did. -/
def fnExactOrderedOfRankSpec : ChangeSpec := { name := "fnExactOrderedOfRank", fn := fun _ => fun
  | [d1, d2] => { results := [.lit (.bool true)], args := [d1, d2] }
  | _ => none }
def fnExactOrderedOfRankRow : OpenClaim := { program := "ytgpebahbeccniaa", sum := "a5d77d08d6ed32334001032c228977b83c9342fff5faff01bc58b25123f872fc", func := "loop.example/g01218/laws.FnExactOrderedOfRank", spec := "fnExactOrderedOfRank", unfollowed := true, recurses := true, plainKeys := false, apart := false }
def FnExactOrderedOfRankSaid : Prop := fnExactOrderedOfRankRow.holds Try.pinned (OpenSpec.ofChange fnExactOrderedOfRankSpec)

/-- ITS FALSE NEIGHBOUR: 'it returns false'. Refute it at one input. -/
def fnExactOrderedOfRankWrong : ChangeSpec := { name := "fnExactOrderedOfRank", fn := fun _ => fun
  | [d1, d2] => { results := [.lit (.bool false)], args := [d1, d2] }
  | _ => none }
def FnExactOrderedOfRankWrongFalsely : Prop := fnExactOrderedOfRankRow.holds Try.pinned (OpenSpec.ofChange fnExactOrderedOfRankWrong)

/-- 'laws.FnExactAllOrdered': WHATEVER THE INPUT: true; the input reads as it did. -/
def fnExactAllOrderedSpec : ChangeSpec := { name := "fnExactAllOrdered", fn := fun _ => fun
  | [d] => { results := [.lit (.bool true)], args := [d] }
  | _ => none }
def fnExactAllOrderedRow : OpenClaim := { program := "ytgpebahbeccniaa", sum := "a5d77d08d6ed32334001032c228977b83c9342fff5faff01bc58b25123f872fc", func := "loop.example/g01218/laws.FnExactAllOrdered", spec := "fnExactAllOrdered", unfollowed := true, recurses := true, plainKeys := false, apart := false }
def FnExactAllOrderedSaid : Prop := fnExactAllOrderedRow.holds Try.pinned (OpenSpec.ofChange fnExactAllOrderedSpec)

/-- ITS FALSE NEIGHBOUR: 'it returns false'. Refute it at one input. -/
def fnExactAllOrderedWrong : ChangeSpec := { name := "fnExactAllOrdered", fn := fun _ => fun
  | [d] => { results := [.lit (.bool false)], args := [d] }
  | _ => none }
def FnExactAllOrderedWrongFalsely : Prop := fnExactAllOrderedRow.holds Try.pinned (OpenSpec.ofChange fnExactAllOrderedWrong)

/-- 'laws.FnExactFirstApart': WHATEVER THE INPUT: true; the input reads as it did. -/
def fnExactFirstApartSpec : ChangeSpec := { name := "fnExactFirstApart", fn := fun _ => fun
  | [d1, d2] => { results := [.lit (.bool true)], args := [d1, d2] }
  | _ => none }
def fnExactFirstApartRow : OpenClaim := { program := "ytgpebahbeccniaa", sum := "a5d77d08d6ed32334001032c228977b83c9342fff5faff01bc58b25123f872fc", func := "loop.example/g01218/laws.FnExactFirstApart", spec := "fnExactFirstApart", unfollowed := true, recurses := true, plainKeys := false, apart := false }
def FnExactFirstApartSaid : Prop := fnExactFirstApartRow.holds Try.pinned (OpenSpec.ofChange fnExactFirstApartSpec)

/-- ITS FALSE NEIGHBOUR: 'it returns false'. Refute it at one input. -/
def fnExactFirstApartWrong : ChangeSpec := { name := "fnExactFirstApart", fn := fun _ => fun
  | [d1, d2] => { results := [.lit (.bool false)], args := [d1, d2] }
  | _ => none }
def FnExactFirstApartWrongFalsely : Prop := fnExactFirstApartRow.holds Try.pinned (OpenSpec.ofChange fnExactFirstApartWrong)

/- THE SECOND FORM. 'bulk': how many values and letters a reading holds, each counted each time it is reached (what is shared counts as often as it is met; a slice's spare places count too). A statement '..UptoSaid' is the law's where the arguments, and the package variables that the reading takes, are together of bulk at most 1048576: NARROWER than '..Said'. Prove '..Said' where nothing that the law and all that it calls make is longer than what came in: it says more and counts as full. Else prove '..UptoSaid'. A law counts once. -/
mutual
def uptoBulk {H : Type} : DataW H → Nat
  | .lit (.string bytes) => bytes.length + 1
  | .lit _ => 1
  | .nil => 1
  | .ptr d => uptoBulk d + 1
  | .slice elems spare => uptoBulkAll elems + uptoBulkAll spare + 1
  | .agg parts => uptoBulkAll parts + 1
  | .iface _ d => uptoBulk d + 1
  | .map entries => uptoBulkEntries entries + 1
  | .held _ => 1
def uptoBulkAll {H : Type} : List (DataW H) → Nat
  | [] => 0
  | d :: r => uptoBulk d + uptoBulkAll r
def uptoBulkEntries {H : Type} : List (Lit × DataW H) → Nat
  | [] => 0
  | x :: r => uptoBulkEntry x + uptoBulkEntries r
def uptoBulkEntry {H : Type} : Lit × DataW H → Nat
  | (.string bytes, d) => bytes.length + uptoBulk d + 1
  | (_, d) => uptoBulk d + 1
 end
def uptoSmall : (H : Type) → List (DataW H) → Bool := fun _ ds => decide (uptoBulkAll ds ≤ 1048576)
def OpenSpec.upto (s : _root_.Go.ChangeSpec) : _root_.Go.OpenSpec := { _root_.Go.OpenSpec.ofChange s with cond := some uptoSmall }

/-- 'laws.FnExactCountByArea', WHERE WHAT IT READS IS OF BULK AT MOST 1048576: true; the input reads as it did. -/
def fnExactCountByAreaUptoRow : OpenClaim := { program := "ytgpebahbeccniaa", sum := "a5d77d08d6ed32334001032c228977b83c9342fff5faff01bc58b25123f872fc", func := "loop.example/g01218/laws.FnExactCountByArea", spec := "fnExactCountByArea", unfollowed := true, recurses := true, plainKeys := false, apart := false, narrowed := true }
def FnExactCountByAreaUptoSaid : Prop := fnExactCountByAreaUptoRow.holds Try.pinned (OpenSpec.upto fnExactCountByAreaSpec)

/-- 'laws.FnExactOrderedOfRank', WHERE WHAT IT READS IS OF BULK AT MOST 1048576: true; the input reads as it did. -/
def fnExactOrderedOfRankUptoRow : OpenClaim := { program := "ytgpebahbeccniaa", sum := "a5d77d08d6ed32334001032c228977b83c9342fff5faff01bc58b25123f872fc", func := "loop.example/g01218/laws.FnExactOrderedOfRank", spec := "fnExactOrderedOfRank", unfollowed := true, recurses := true, plainKeys := false, apart := false, narrowed := true }
def FnExactOrderedOfRankUptoSaid : Prop := fnExactOrderedOfRankUptoRow.holds Try.pinned (OpenSpec.upto fnExactOrderedOfRankSpec)

/-- 'laws.FnExactAllOrdered', WHERE WHAT IT READS IS OF BULK AT MOST 1048576: true; the input reads as it did. -/
def fnExactAllOrderedUptoRow : OpenClaim := { program := "ytgpebahbeccniaa", sum := "a5d77d08d6ed32334001032c228977b83c9342fff5faff01bc58b25123f872fc", func := "loop.example/g01218/laws.FnExactAllOrdered", spec := "fnExactAllOrdered", unfollowed := true, recurses := true, plainKeys := false, apart := false, narrowed := true }
def FnExactAllOrderedUptoSaid : Prop := fnExactAllOrderedUptoRow.holds Try.pinned (OpenSpec.upto fnExactAllOrderedSpec)

/-- 'laws.FnExactFirstApart', WHERE WHAT IT READS IS OF BULK AT MOST 1048576: true; the input reads as it did. -/
def fnExactFirstApartUptoRow : OpenClaim := { program := "ytgpebahbeccniaa", sum := "a5d77d08d6ed32334001032c228977b83c9342fff5faff01bc58b25123f872fc", func := "loop.example/g01218/laws.FnExactFirstApart", spec := "fnExactFirstApart", unfollowed := true, recurses := true, plainKeys := false, apart := false, narrowed := true }
def FnExactFirstApartUptoSaid : Prop := fnExactFirstApartUptoRow.holds Try.pinned (OpenSpec.upto fnExactFirstApartSpec)

end Rows
end Go.Proofs.Ytgpebahbeccniaa
