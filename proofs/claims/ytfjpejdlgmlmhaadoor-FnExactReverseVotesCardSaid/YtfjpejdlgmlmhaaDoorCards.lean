/-
  DERIVED. GIVEN WITH THE SEED: THE CARDS: each row of YtfjpejdlgmlmhaaDoorRows.lean that lists a variable, with what it lists TIED to the program's text (the seventh form; the later family's looks); each row that meets fmt, with fmt's text TOLD by the authors' own Lean function (tested against real Go, not proved from fmt's source: count such statements apart). THE CARD IS WHAT COUNTS. Prove the row's statement (the work); the ties are given (YtfjpejdlgmlmhaaDoorTie.lean); close each card by the builder's one call (the guide's Derived/Test/ToyasCard.lean, 'card_holds'). Laid BY PROGRAM, IN A SANDBOX (cutbox-door.mjs). By AI agents, Wed Nov 11 2026. No macro, syntax, notation, axiom, sorry.
-/
import Derived.Test.YtfjpejdlgmlmhaaDoorRows
import GoSem.ClaimSeven
namespace Go.Proofs.YtfjpejdlgmlmhaaDoor
namespace Rows

/-- THE TIED CARD OF 'laws.FnExactAreVotes'. -/
def fnExactAreVotesCard : Claim7 := { stood := { row := fnExactAreVotesRow, standIns := [], harness := (true, "9b44e8ff85139e0f7e531facad35a89205b98036a296c269649df8b2ee37e668"), looks := false }, kinds := [], alts := [], laidByText := true, laidKinds := [.data, .pinned], laidTests := true, laidLooks := .later }
def FnExactAreVotesCardSaid : Prop := Claim7.holds Tryd.pinned (.plain (OpenSpec.ofChange fnExactAreVotesSpec)) fnExactAreVotesCard

/-- THE TIED CARD OF 'laws.FnExactReverseVotes'. -/
def fnExactReverseVotesCard : Claim7 := { stood := { row := fnExactReverseVotesRow, standIns := [], harness := (true, "9b44e8ff85139e0f7e531facad35a89205b98036a296c269649df8b2ee37e668"), looks := false }, kinds := [], alts := [], laidByText := true, laidKinds := [.data, .pinned], laidTests := true, laidLooks := .later }
def FnExactReverseVotesCardSaid : Prop := Claim7.holds Tryd.pinned (.plain (OpenSpec.ofChange fnExactReverseVotesSpec)) fnExactReverseVotesCard

/-- THE TIED CARD OF 'laws.FnExactIsOrdered'. -/
def fnExactIsOrderedCard : Claim7 := { stood := { row := fnExactIsOrderedRow, standIns := [], harness := (true, "9b44e8ff85139e0f7e531facad35a89205b98036a296c269649df8b2ee37e668"), looks := false }, kinds := [], alts := [], laidByText := true, laidKinds := [.data, .pinned], laidTests := true, laidLooks := .later }
def FnExactIsOrderedCardSaid : Prop := Claim7.holds Tryd.pinned (.plain (OpenSpec.ofChange fnExactIsOrderedSpec)) fnExactIsOrderedCard

/-- THE TIED CARD OF 'laws.FnExactFirstOvertaken'. -/
def fnExactFirstOvertakenCard : Claim7 := { stood := { row := fnExactFirstOvertakenRow, standIns := [], harness := (true, "9b44e8ff85139e0f7e531facad35a89205b98036a296c269649df8b2ee37e668"), looks := false }, kinds := [], alts := [], laidByText := true, laidKinds := [.data, .pinned], laidTests := true, laidLooks := .later }
def FnExactFirstOvertakenCardSaid : Prop := Claim7.holds Tryd.pinned (.plain (OpenSpec.ofChange fnExactFirstOvertakenSpec)) fnExactFirstOvertakenCard

/-- THE TIED CARD OF 'laws.FnExactCountsOfVotes'. -/
def fnExactCountsOfVotesCard : Claim7 := { stood := { row := fnExactCountsOfVotesRow, standIns := [], harness := (true, "9b44e8ff85139e0f7e531facad35a89205b98036a296c269649df8b2ee37e668"), looks := false }, kinds := [], alts := [], laidByText := true, laidKinds := [.data, .pinned], laidTests := true, laidLooks := .later }
def FnExactCountsOfVotesCardSaid : Prop := Claim7.holds Tryd.pinned (.plain (OpenSpec.ofChange fnExactCountsOfVotesSpec)) fnExactCountsOfVotesCard

/-- THE TIED CARD OF 'laws.FnExactWinnersOf'. -/
def fnExactWinnersOfCard : Claim7 := { stood := { row := fnExactWinnersOfRow, standIns := [], harness := (true, "9b44e8ff85139e0f7e531facad35a89205b98036a296c269649df8b2ee37e668"), looks := false }, kinds := [], alts := [], laidByText := true, laidKinds := [.data, .pinned], laidTests := true, laidLooks := .later }
def FnExactWinnersOfCardSaid : Prop := Claim7.holds Tryd.pinned (.plain (OpenSpec.ofChange fnExactWinnersOfSpec)) fnExactWinnersOfCard

/-- THE TIED CARD OF 'laws.FnExactLeadersAlong'. -/
def fnExactLeadersAlongCard : Claim7 := { stood := { row := fnExactLeadersAlongRow, standIns := [], harness := (true, "9b44e8ff85139e0f7e531facad35a89205b98036a296c269649df8b2ee37e668"), looks := false }, kinds := [], alts := [], laidByText := true, laidKinds := [.data, .pinned], laidTests := true, laidLooks := .later }
def FnExactLeadersAlongCardSaid : Prop := Claim7.holds Tryd.pinned (.plain (OpenSpec.ofChange fnExactLeadersAlongSpec)) fnExactLeadersAlongCard

/-- THE TIED CARD OF 'laws.FnExactTableOfVotes'. -/
def fnExactTableOfVotesCard : Claim7 := { stood := { row := fnExactTableOfVotesRow, standIns := [], harness := (true, "9b44e8ff85139e0f7e531facad35a89205b98036a296c269649df8b2ee37e668"), looks := false }, kinds := [], alts := [], laidByText := true, laidKinds := [.data, .pinned], laidTests := true, laidLooks := .later }
def FnExactTableOfVotesCardSaid : Prop := Claim7.holds Tryd.pinned (.plain (OpenSpec.ofChange fnExactTableOfVotesSpec)) fnExactTableOfVotesCard

/-- THE TIED CARD OF 'laws.FnExactVotesOfTable'. -/
def fnExactVotesOfTableCard : Claim7 := { stood := { row := fnExactVotesOfTableRow, standIns := [], harness := (true, "9b44e8ff85139e0f7e531facad35a89205b98036a296c269649df8b2ee37e668"), looks := false }, kinds := [], alts := [], laidByText := true, laidKinds := [.data, .pinned], laidTests := true, laidLooks := .later }
def FnExactVotesOfTableCardSaid : Prop := Claim7.holds Tryd.pinned (.plain (OpenSpec.ofChange fnExactVotesOfTableSpec)) fnExactVotesOfTableCard

/-- THE TIED CARD OF 'laws.FnExactRankOrdered'. -/
def fnExactRankOrderedCard : Claim7 := { stood := { row := fnExactRankOrderedRow, standIns := [], harness := (true, "9b44e8ff85139e0f7e531facad35a89205b98036a296c269649df8b2ee37e668"), looks := false }, kinds := [], alts := [], laidByText := true, laidKinds := [.data, .pinned], laidTests := true, laidLooks := .later }
def FnExactRankOrderedCardSaid : Prop := Claim7.holds Tryd.pinned (.plain (OpenSpec.ofChange fnExactRankOrderedSpec)) fnExactRankOrderedCard

/-- THE TIED CARD OF 'laws.FnExactColumnVotes'. -/
def fnExactColumnVotesCard : Claim7 := { stood := { row := fnExactColumnVotesRow, standIns := [], harness := (true, "9b44e8ff85139e0f7e531facad35a89205b98036a296c269649df8b2ee37e668"), looks := false }, kinds := [], alts := [], laidByText := true, laidKinds := [.data, .pinned], laidTests := true, laidLooks := .later }
def FnExactColumnVotesCardSaid : Prop := Claim7.holds Tryd.pinned (.plain (OpenSpec.ofChange fnExactColumnVotesSpec)) fnExactColumnVotesCard

/-- THE TIED CARD OF 'laws.FnVotesTold'. -/
def fnVotesToldCard : Claim7 := { stood := { row := fnVotesToldRow, standIns := [], harness := (true, "9b44e8ff85139e0f7e531facad35a89205b98036a296c269649df8b2ee37e668"), looks := false }, kinds := [], alts := [], laidByText := true, laidKinds := [.data, .pinned], laidTests := true, laidLooks := .later }
def FnVotesToldCardSaid : Prop := Claim7.holds Tryd.pinned (.plain (OpenSpec.ofChange fnVotesToldSpec)) fnVotesToldCard

/-- THE SECOND FORM's CARD OF 'laws.FnExactAreVotes'. -/
def fnExactAreVotesUptoCard : Claim7 := { stood := { row := fnExactAreVotesUptoRow, standIns := [], harness := (true, "9b44e8ff85139e0f7e531facad35a89205b98036a296c269649df8b2ee37e668"), looks := false }, kinds := [], alts := [], laidByText := true, laidKinds := [.data, .pinned], laidTests := true, laidLooks := .later }
def FnExactAreVotesUptoCardSaid : Prop := Claim7.holds Tryd.pinned (.plain (OpenSpec.upto fnExactAreVotesSpec)) fnExactAreVotesUptoCard

/-- THE SECOND FORM's CARD OF 'laws.FnExactReverseVotes'. -/
def fnExactReverseVotesUptoCard : Claim7 := { stood := { row := fnExactReverseVotesUptoRow, standIns := [], harness := (true, "9b44e8ff85139e0f7e531facad35a89205b98036a296c269649df8b2ee37e668"), looks := false }, kinds := [], alts := [], laidByText := true, laidKinds := [.data, .pinned], laidTests := true, laidLooks := .later }
def FnExactReverseVotesUptoCardSaid : Prop := Claim7.holds Tryd.pinned (.plain (OpenSpec.upto fnExactReverseVotesSpec)) fnExactReverseVotesUptoCard

/-- THE SECOND FORM's CARD OF 'laws.FnExactIsOrdered'. -/
def fnExactIsOrderedUptoCard : Claim7 := { stood := { row := fnExactIsOrderedUptoRow, standIns := [], harness := (true, "9b44e8ff85139e0f7e531facad35a89205b98036a296c269649df8b2ee37e668"), looks := false }, kinds := [], alts := [], laidByText := true, laidKinds := [.data, .pinned], laidTests := true, laidLooks := .later }
def FnExactIsOrderedUptoCardSaid : Prop := Claim7.holds Tryd.pinned (.plain (OpenSpec.upto fnExactIsOrderedSpec)) fnExactIsOrderedUptoCard

/-- THE SECOND FORM's CARD OF 'laws.FnExactFirstOvertaken'. -/
def fnExactFirstOvertakenUptoCard : Claim7 := { stood := { row := fnExactFirstOvertakenUptoRow, standIns := [], harness := (true, "9b44e8ff85139e0f7e531facad35a89205b98036a296c269649df8b2ee37e668"), looks := false }, kinds := [], alts := [], laidByText := true, laidKinds := [.data, .pinned], laidTests := true, laidLooks := .later }
def FnExactFirstOvertakenUptoCardSaid : Prop := Claim7.holds Tryd.pinned (.plain (OpenSpec.upto fnExactFirstOvertakenSpec)) fnExactFirstOvertakenUptoCard

/-- THE SECOND FORM's CARD OF 'laws.FnExactCountsOfVotes'. -/
def fnExactCountsOfVotesUptoCard : Claim7 := { stood := { row := fnExactCountsOfVotesUptoRow, standIns := [], harness := (true, "9b44e8ff85139e0f7e531facad35a89205b98036a296c269649df8b2ee37e668"), looks := false }, kinds := [], alts := [], laidByText := true, laidKinds := [.data, .pinned], laidTests := true, laidLooks := .later }
def FnExactCountsOfVotesUptoCardSaid : Prop := Claim7.holds Tryd.pinned (.plain (OpenSpec.upto fnExactCountsOfVotesSpec)) fnExactCountsOfVotesUptoCard

/-- THE SECOND FORM's CARD OF 'laws.FnExactWinnersOf'. -/
def fnExactWinnersOfUptoCard : Claim7 := { stood := { row := fnExactWinnersOfUptoRow, standIns := [], harness := (true, "9b44e8ff85139e0f7e531facad35a89205b98036a296c269649df8b2ee37e668"), looks := false }, kinds := [], alts := [], laidByText := true, laidKinds := [.data, .pinned], laidTests := true, laidLooks := .later }
def FnExactWinnersOfUptoCardSaid : Prop := Claim7.holds Tryd.pinned (.plain (OpenSpec.upto fnExactWinnersOfSpec)) fnExactWinnersOfUptoCard

/-- THE SECOND FORM's CARD OF 'laws.FnExactLeadersAlong'. -/
def fnExactLeadersAlongUptoCard : Claim7 := { stood := { row := fnExactLeadersAlongUptoRow, standIns := [], harness := (true, "9b44e8ff85139e0f7e531facad35a89205b98036a296c269649df8b2ee37e668"), looks := false }, kinds := [], alts := [], laidByText := true, laidKinds := [.data, .pinned], laidTests := true, laidLooks := .later }
def FnExactLeadersAlongUptoCardSaid : Prop := Claim7.holds Tryd.pinned (.plain (OpenSpec.upto fnExactLeadersAlongSpec)) fnExactLeadersAlongUptoCard

/-- THE SECOND FORM's CARD OF 'laws.FnExactTableOfVotes'. -/
def fnExactTableOfVotesUptoCard : Claim7 := { stood := { row := fnExactTableOfVotesUptoRow, standIns := [], harness := (true, "9b44e8ff85139e0f7e531facad35a89205b98036a296c269649df8b2ee37e668"), looks := false }, kinds := [], alts := [], laidByText := true, laidKinds := [.data, .pinned], laidTests := true, laidLooks := .later }
def FnExactTableOfVotesUptoCardSaid : Prop := Claim7.holds Tryd.pinned (.plain (OpenSpec.upto fnExactTableOfVotesSpec)) fnExactTableOfVotesUptoCard

/-- THE SECOND FORM's CARD OF 'laws.FnExactVotesOfTable'. -/
def fnExactVotesOfTableUptoCard : Claim7 := { stood := { row := fnExactVotesOfTableUptoRow, standIns := [], harness := (true, "9b44e8ff85139e0f7e531facad35a89205b98036a296c269649df8b2ee37e668"), looks := false }, kinds := [], alts := [], laidByText := true, laidKinds := [.data, .pinned], laidTests := true, laidLooks := .later }
def FnExactVotesOfTableUptoCardSaid : Prop := Claim7.holds Tryd.pinned (.plain (OpenSpec.upto fnExactVotesOfTableSpec)) fnExactVotesOfTableUptoCard

/-- THE SECOND FORM's CARD OF 'laws.FnExactRankOrdered'. -/
def fnExactRankOrderedUptoCard : Claim7 := { stood := { row := fnExactRankOrderedUptoRow, standIns := [], harness := (true, "9b44e8ff85139e0f7e531facad35a89205b98036a296c269649df8b2ee37e668"), looks := false }, kinds := [], alts := [], laidByText := true, laidKinds := [.data, .pinned], laidTests := true, laidLooks := .later }
def FnExactRankOrderedUptoCardSaid : Prop := Claim7.holds Tryd.pinned (.plain (OpenSpec.upto fnExactRankOrderedSpec)) fnExactRankOrderedUptoCard

/-- THE SECOND FORM's CARD OF 'laws.FnExactColumnVotes'. -/
def fnExactColumnVotesUptoCard : Claim7 := { stood := { row := fnExactColumnVotesUptoRow, standIns := [], harness := (true, "9b44e8ff85139e0f7e531facad35a89205b98036a296c269649df8b2ee37e668"), looks := false }, kinds := [], alts := [], laidByText := true, laidKinds := [.data, .pinned], laidTests := true, laidLooks := .later }
def FnExactColumnVotesUptoCardSaid : Prop := Claim7.holds Tryd.pinned (.plain (OpenSpec.upto fnExactColumnVotesSpec)) fnExactColumnVotesUptoCard

/-- THE SECOND FORM's CARD OF 'laws.FnVotesTold'. -/
def fnVotesToldUptoCard : Claim7 := { stood := { row := fnVotesToldUptoRow, standIns := [], harness := (true, "9b44e8ff85139e0f7e531facad35a89205b98036a296c269649df8b2ee37e668"), looks := false }, kinds := [], alts := [], laidByText := true, laidKinds := [.data, .pinned], laidTests := true, laidLooks := .later }
def FnVotesToldUptoCardSaid : Prop := Claim7.holds Tryd.pinned (.plain (OpenSpec.upto fnVotesToldSpec)) fnVotesToldUptoCard
end Rows
end Go.Proofs.YtfjpejdlgmlmhaaDoor
