/-
  DERIVED. GIVEN WITH THE SEED: THE CARDS: each row of YtjjkglfpcdedlabDoorRows.lean that lists a variable, with what it lists TIED to the program's text (the seventh form; the later family's looks); each row that meets fmt, with fmt's text TOLD by the authors' own Lean function (tested against real Go, not proved from fmt's source: count such statements apart). THE CARD IS WHAT COUNTS. Prove the row's statement (the work); the ties are given (YtjjkglfpcdedlabDoorTie.lean); close each card by the builder's one call (the guide's Derived/Test/ToyasCard.lean, 'card_holds'). Laid BY PROGRAM, IN A SANDBOX (cutbox-door.mjs). By AI agents, Wed Nov 11 2026. No macro, syntax, notation, axiom, sorry.
-/
import Derived.Test.YtjjkglfpcdedlabDoorRows
import GoSem.ClaimSeven
namespace Go.Proofs.YtjjkglfpcdedlabDoor
namespace Rows

/-- THE TIED CARD OF 'laws.FnGoodPathsSorted'. -/
def fnGoodPathsSortedCard : Claim7 := { stood := { row := fnGoodPathsSortedRow, standIns := [], harness := (true, "9b05149be54c7b16cc753652954aa7f35df6e01d7935168ba645009888c15b57"), looks := false }, kinds := [], alts := [], laidByText := true, laidKinds := [.data, .pinned], laidTests := true, laidLooks := .later }
def FnGoodPathsSortedCardSaid : Prop := Claim7.holds Tryd.pinned (.plain (OpenSpec.ofChange fnGoodPathsSortedSpec)) fnGoodPathsSortedCard

/-- THE SECOND FORM's CARD OF 'laws.FnGoodPathsSorted'. -/
def fnGoodPathsSortedUptoCard : Claim7 := { stood := { row := fnGoodPathsSortedUptoRow, standIns := [], harness := (true, "9b05149be54c7b16cc753652954aa7f35df6e01d7935168ba645009888c15b57"), looks := false }, kinds := [], alts := [], laidByText := true, laidKinds := [.data, .pinned], laidTests := true, laidLooks := .later }
def FnGoodPathsSortedUptoCardSaid : Prop := Claim7.holds Tryd.pinned (.plain (OpenSpec.upto fnGoodPathsSortedSpec)) fnGoodPathsSortedUptoCard
end Rows
end Go.Proofs.YtjjkglfpcdedlabDoor
