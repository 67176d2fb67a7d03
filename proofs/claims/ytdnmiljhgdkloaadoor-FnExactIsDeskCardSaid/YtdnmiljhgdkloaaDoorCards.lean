/-
  DERIVED. GIVEN WITH THE SEED: THE CARDS: each row of YtdnmiljhgdkloaaDoorRows.lean that lists a variable, with what it lists TIED to the program's text (the seventh form; the later family's looks); each row that meets fmt, with fmt's text TOLD by the authors' own Lean function (tested against real Go, not proved from fmt's source: count such statements apart). THE CARD IS WHAT COUNTS. Prove the row's statement (the work); the ties are given (YtdnmiljhgdkloaaDoorTie.lean); close each card by the builder's one call (the guide's Derived/Test/ToyasCard.lean, 'card_holds'). Laid BY PROGRAM, IN A SANDBOX (cutbox-door.mjs). By AI agents, Wed Nov 11 2026. No macro, syntax, notation, axiom, sorry.
-/
import Derived.Test.YtdnmiljhgdkloaaDoorRows
import GoSem.ClaimSeven
namespace Go.Proofs.YtdnmiljhgdkloaaDoor
namespace Rows

/-- THE TIED CARD OF 'laws.FnExactIsDesk'. -/
def fnExactIsDeskCard : Claim7 := { stood := { row := fnExactIsDeskRow, standIns := [], harness := (true, "5a14be685d494195d3458c5b2ee2bdcffd9572cd5a4abb9ef6644a79420431ec"), looks := false }, kinds := [], alts := [], laidByText := true, laidKinds := [.data, .pinned], laidTests := true, laidLooks := .later }
def FnExactIsDeskCardSaid : Prop := Claim7.holds Tryd.pinned (.plain (OpenSpec.ofChange fnExactIsDeskSpec)) fnExactIsDeskCard

/-- THE TIED CARD OF 'laws.FnExactStepsAbove'. -/
def fnExactStepsAboveCard : Claim7 := { stood := { row := fnExactStepsAboveRow, standIns := [], harness := (true, "5a14be685d494195d3458c5b2ee2bdcffd9572cd5a4abb9ef6644a79420431ec"), looks := false }, kinds := [], alts := [], laidByText := true, laidKinds := [.data, .pinned], laidTests := true, laidLooks := .later }
def FnExactStepsAboveCardSaid : Prop := Claim7.holds Tryd.pinned (.plain (OpenSpec.ofChange fnExactStepsAboveSpec)) fnExactStepsAboveCard

/-- THE TIED CARD OF 'laws.FnExactLastReturn'. -/
def fnExactLastReturnCard : Claim7 := { stood := { row := fnExactLastReturnRow, standIns := [], harness := (true, "5a14be685d494195d3458c5b2ee2bdcffd9572cd5a4abb9ef6644a79420431ec"), looks := false }, kinds := [], alts := [], laidByText := true, laidKinds := [.data, .pinned], laidTests := true, laidLooks := .later }
def FnExactLastReturnCardSaid : Prop := Claim7.holds Tryd.pinned (.plain (OpenSpec.ofChange fnExactLastReturnSpec)) fnExactLastReturnCard

/-- THE TIED CARD OF 'laws.FnExactRecordsOfPath'. -/
def fnExactRecordsOfPathCard : Claim7 := { stood := { row := fnExactRecordsOfPathRow, standIns := [], harness := (true, "5a14be685d494195d3458c5b2ee2bdcffd9572cd5a4abb9ef6644a79420431ec"), looks := false }, kinds := [], alts := [], laidByText := true, laidKinds := [.data, .pinned], laidTests := true, laidLooks := .later }
def FnExactRecordsOfPathCardSaid : Prop := Claim7.holds Tryd.pinned (.plain (OpenSpec.ofChange fnExactRecordsOfPathSpec)) fnExactRecordsOfPathCard

/-- THE TIED CARD OF 'laws.FnExactAreaIndex'. -/
def fnExactAreaIndexCard : Claim7 := { stood := { row := fnExactAreaIndexRow, standIns := [], harness := (true, "5a14be685d494195d3458c5b2ee2bdcffd9572cd5a4abb9ef6644a79420431ec"), looks := false }, kinds := [], alts := [], laidByText := true, laidKinds := [.data, .pinned], laidTests := true, laidLooks := .later }
def FnExactAreaIndexCardSaid : Prop := Claim7.holds Tryd.pinned (.plain (OpenSpec.ofChange fnExactAreaIndexSpec)) fnExactAreaIndexCard

/-- THE TIED CARD OF 'laws.FnPathsRanked'. -/
def fnPathsRankedCard : Claim7 := { stood := { row := fnPathsRankedRow, standIns := [], harness := (true, "5a14be685d494195d3458c5b2ee2bdcffd9572cd5a4abb9ef6644a79420431ec"), looks := false }, kinds := [], alts := [], laidByText := true, laidKinds := [.data, .pinned], laidTests := true, laidLooks := .later }
def FnPathsRankedCardSaid : Prop := Claim7.holds Tryd.pinned (.plain (OpenSpec.ofChange fnPathsRankedSpec)) fnPathsRankedCard

/-- THE TIED CARD OF 'laws.FnBallotsCounted'. -/
def fnBallotsCountedCard : Claim7 := { stood := { row := fnBallotsCountedRow, standIns := [], harness := (true, "5a14be685d494195d3458c5b2ee2bdcffd9572cd5a4abb9ef6644a79420431ec"), looks := false }, kinds := [], alts := [], laidByText := true, laidKinds := [.data, .pinned], laidTests := true, laidLooks := .later }
def FnBallotsCountedCardSaid : Prop := Claim7.holds Tryd.pinned (.plain (OpenSpec.ofChange fnBallotsCountedSpec)) fnBallotsCountedCard

/-- THE TIED CARD OF 'laws.FnTouchesCounted'. -/
def fnTouchesCountedCard : Claim7 := { stood := { row := fnTouchesCountedRow, standIns := [], harness := (true, "5a14be685d494195d3458c5b2ee2bdcffd9572cd5a4abb9ef6644a79420431ec"), looks := false }, kinds := [], alts := [], laidByText := true, laidKinds := [.data, .pinned], laidTests := true, laidLooks := .later }
def FnTouchesCountedCardSaid : Prop := Claim7.holds Tryd.pinned (.plain (OpenSpec.ofChange fnTouchesCountedSpec)) fnTouchesCountedCard

/-- THE TIED CARD OF 'laws.FnGoodPathsSorted'. -/
def fnGoodPathsSortedCard : Claim7 := { stood := { row := fnGoodPathsSortedRow, standIns := [], harness := (true, "5a14be685d494195d3458c5b2ee2bdcffd9572cd5a4abb9ef6644a79420431ec"), looks := false }, kinds := [], alts := [], laidByText := true, laidKinds := [.data, .pinned], laidTests := true, laidLooks := .later }
def FnGoodPathsSortedCardSaid : Prop := Claim7.holds Tryd.pinned (.plain (OpenSpec.ofChange fnGoodPathsSortedSpec)) fnGoodPathsSortedCard

/-- THE SECOND FORM's CARD OF 'laws.FnExactIsDesk'. -/
def fnExactIsDeskUptoCard : Claim7 := { stood := { row := fnExactIsDeskUptoRow, standIns := [], harness := (true, "5a14be685d494195d3458c5b2ee2bdcffd9572cd5a4abb9ef6644a79420431ec"), looks := false }, kinds := [], alts := [], laidByText := true, laidKinds := [.data, .pinned], laidTests := true, laidLooks := .later }
def FnExactIsDeskUptoCardSaid : Prop := Claim7.holds Tryd.pinned (.plain (OpenSpec.upto fnExactIsDeskSpec)) fnExactIsDeskUptoCard

/-- THE SECOND FORM's CARD OF 'laws.FnExactStepsAbove'. -/
def fnExactStepsAboveUptoCard : Claim7 := { stood := { row := fnExactStepsAboveUptoRow, standIns := [], harness := (true, "5a14be685d494195d3458c5b2ee2bdcffd9572cd5a4abb9ef6644a79420431ec"), looks := false }, kinds := [], alts := [], laidByText := true, laidKinds := [.data, .pinned], laidTests := true, laidLooks := .later }
def FnExactStepsAboveUptoCardSaid : Prop := Claim7.holds Tryd.pinned (.plain (OpenSpec.upto fnExactStepsAboveSpec)) fnExactStepsAboveUptoCard

/-- THE SECOND FORM's CARD OF 'laws.FnExactLastReturn'. -/
def fnExactLastReturnUptoCard : Claim7 := { stood := { row := fnExactLastReturnUptoRow, standIns := [], harness := (true, "5a14be685d494195d3458c5b2ee2bdcffd9572cd5a4abb9ef6644a79420431ec"), looks := false }, kinds := [], alts := [], laidByText := true, laidKinds := [.data, .pinned], laidTests := true, laidLooks := .later }
def FnExactLastReturnUptoCardSaid : Prop := Claim7.holds Tryd.pinned (.plain (OpenSpec.upto fnExactLastReturnSpec)) fnExactLastReturnUptoCard

/-- THE SECOND FORM's CARD OF 'laws.FnExactRecordsOfPath'. -/
def fnExactRecordsOfPathUptoCard : Claim7 := { stood := { row := fnExactRecordsOfPathUptoRow, standIns := [], harness := (true, "5a14be685d494195d3458c5b2ee2bdcffd9572cd5a4abb9ef6644a79420431ec"), looks := false }, kinds := [], alts := [], laidByText := true, laidKinds := [.data, .pinned], laidTests := true, laidLooks := .later }
def FnExactRecordsOfPathUptoCardSaid : Prop := Claim7.holds Tryd.pinned (.plain (OpenSpec.upto fnExactRecordsOfPathSpec)) fnExactRecordsOfPathUptoCard

/-- THE SECOND FORM's CARD OF 'laws.FnExactAreaIndex'. -/
def fnExactAreaIndexUptoCard : Claim7 := { stood := { row := fnExactAreaIndexUptoRow, standIns := [], harness := (true, "5a14be685d494195d3458c5b2ee2bdcffd9572cd5a4abb9ef6644a79420431ec"), looks := false }, kinds := [], alts := [], laidByText := true, laidKinds := [.data, .pinned], laidTests := true, laidLooks := .later }
def FnExactAreaIndexUptoCardSaid : Prop := Claim7.holds Tryd.pinned (.plain (OpenSpec.upto fnExactAreaIndexSpec)) fnExactAreaIndexUptoCard

/-- THE SECOND FORM's CARD OF 'laws.FnPathsRanked'. -/
def fnPathsRankedUptoCard : Claim7 := { stood := { row := fnPathsRankedUptoRow, standIns := [], harness := (true, "5a14be685d494195d3458c5b2ee2bdcffd9572cd5a4abb9ef6644a79420431ec"), looks := false }, kinds := [], alts := [], laidByText := true, laidKinds := [.data, .pinned], laidTests := true, laidLooks := .later }
def FnPathsRankedUptoCardSaid : Prop := Claim7.holds Tryd.pinned (.plain (OpenSpec.upto fnPathsRankedSpec)) fnPathsRankedUptoCard

/-- THE SECOND FORM's CARD OF 'laws.FnBallotsCounted'. -/
def fnBallotsCountedUptoCard : Claim7 := { stood := { row := fnBallotsCountedUptoRow, standIns := [], harness := (true, "5a14be685d494195d3458c5b2ee2bdcffd9572cd5a4abb9ef6644a79420431ec"), looks := false }, kinds := [], alts := [], laidByText := true, laidKinds := [.data, .pinned], laidTests := true, laidLooks := .later }
def FnBallotsCountedUptoCardSaid : Prop := Claim7.holds Tryd.pinned (.plain (OpenSpec.upto fnBallotsCountedSpec)) fnBallotsCountedUptoCard

/-- THE SECOND FORM's CARD OF 'laws.FnTouchesCounted'. -/
def fnTouchesCountedUptoCard : Claim7 := { stood := { row := fnTouchesCountedUptoRow, standIns := [], harness := (true, "5a14be685d494195d3458c5b2ee2bdcffd9572cd5a4abb9ef6644a79420431ec"), looks := false }, kinds := [], alts := [], laidByText := true, laidKinds := [.data, .pinned], laidTests := true, laidLooks := .later }
def FnTouchesCountedUptoCardSaid : Prop := Claim7.holds Tryd.pinned (.plain (OpenSpec.upto fnTouchesCountedSpec)) fnTouchesCountedUptoCard

/-- THE SECOND FORM's CARD OF 'laws.FnGoodPathsSorted'. -/
def fnGoodPathsSortedUptoCard : Claim7 := { stood := { row := fnGoodPathsSortedUptoRow, standIns := [], harness := (true, "5a14be685d494195d3458c5b2ee2bdcffd9572cd5a4abb9ef6644a79420431ec"), looks := false }, kinds := [], alts := [], laidByText := true, laidKinds := [.data, .pinned], laidTests := true, laidLooks := .later }
def FnGoodPathsSortedUptoCardSaid : Prop := Claim7.holds Tryd.pinned (.plain (OpenSpec.upto fnGoodPathsSortedSpec)) fnGoodPathsSortedUptoCard
end Rows
end Go.Proofs.YtdnmiljhgdkloaaDoor
