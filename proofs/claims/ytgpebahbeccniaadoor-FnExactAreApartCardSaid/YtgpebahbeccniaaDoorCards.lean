/-
  DERIVED. GIVEN WITH THE SEED: THE CARDS: each row of YtgpebahbeccniaaDoorRows.lean that lists a variable, with what it lists TIED to the program's text (the seventh form; the later family's looks); each row that meets fmt, with fmt's text TOLD by the authors' own Lean function (tested against real Go, not proved from fmt's source: count such statements apart). THE CARD IS WHAT COUNTS. Prove the row's statement (the work); the ties are given (YtgpebahbeccniaaDoorTie.lean); close each card by the builder's one call (the guide's Derived/Test/ToyasCard.lean, 'card_holds'). Laid BY PROGRAM, IN A SANDBOX (cutbox-door.mjs). By AI agents, Wed Nov 11 2026. No macro, syntax, notation, axiom, sorry.
-/
import Derived.Test.YtgpebahbeccniaaDoorRows
import GoSem.ClaimSeven
namespace Go.Proofs.YtgpebahbeccniaaDoor
namespace Rows

/-- THE TIED CARD OF 'laws.FnExactRankOrdered'. -/
def fnExactRankOrderedCard : Claim7 := { stood := { row := fnExactRankOrderedRow, standIns := [], harness := (true, "a26ba587f96d88c2df2ceeca68b89ba7d16b4f0974321bcd32235e2b09acb62d"), looks := false }, kinds := [], alts := [], laidByText := true, laidKinds := [.data, .pinned], laidTests := true, laidLooks := .later }
def FnExactRankOrderedCardSaid : Prop := Claim7.holds Tryd.pinned (.plain (OpenSpec.ofChange fnExactRankOrderedSpec)) fnExactRankOrderedCard

/-- THE TIED CARD OF 'laws.FnExactAreApart'. -/
def fnExactAreApartCard : Claim7 := { stood := { row := fnExactAreApartRow, standIns := [], harness := (true, "a26ba587f96d88c2df2ceeca68b89ba7d16b4f0974321bcd32235e2b09acb62d"), looks := false }, kinds := [], alts := [], laidByText := true, laidKinds := [.data, .pinned], laidTests := true, laidLooks := .later }
def FnExactAreApartCardSaid : Prop := Claim7.holds Tryd.pinned (.plain (OpenSpec.ofChange fnExactAreApartSpec)) fnExactAreApartCard

/-- THE SECOND FORM's CARD OF 'laws.FnExactRankOrdered'. -/
def fnExactRankOrderedUptoCard : Claim7 := { stood := { row := fnExactRankOrderedUptoRow, standIns := [], harness := (true, "a26ba587f96d88c2df2ceeca68b89ba7d16b4f0974321bcd32235e2b09acb62d"), looks := false }, kinds := [], alts := [], laidByText := true, laidKinds := [.data, .pinned], laidTests := true, laidLooks := .later }
def FnExactRankOrderedUptoCardSaid : Prop := Claim7.holds Tryd.pinned (.plain (OpenSpec.upto fnExactRankOrderedSpec)) fnExactRankOrderedUptoCard

/-- THE SECOND FORM's CARD OF 'laws.FnExactAreApart'. -/
def fnExactAreApartUptoCard : Claim7 := { stood := { row := fnExactAreApartUptoRow, standIns := [], harness := (true, "a26ba587f96d88c2df2ceeca68b89ba7d16b4f0974321bcd32235e2b09acb62d"), looks := false }, kinds := [], alts := [], laidByText := true, laidKinds := [.data, .pinned], laidTests := true, laidLooks := .later }
def FnExactAreApartUptoCardSaid : Prop := Claim7.holds Tryd.pinned (.plain (OpenSpec.upto fnExactAreApartSpec)) fnExactAreApartUptoCard
end Rows
end Go.Proofs.YtgpebahbeccniaaDoor
