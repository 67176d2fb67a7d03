/-
  DERIVED. GIVEN WITH THE SEED: THE CARDS: each row of YtfmoaonnknpobaaDoorRows.lean that lists a variable, with what it lists TIED to the program's text (the seventh form; the later family's looks); each row that meets fmt, with fmt's text TOLD by the authors' own Lean function (tested against real Go, not proved from fmt's source: count such statements apart). THE CARD IS WHAT COUNTS. Prove the row's statement (the work); the ties are given (YtfmoaonnknpobaaDoorTie.lean); close each card by the builder's one call (the guide's Derived/Test/ToyasCard.lean, 'card_holds'). Laid BY PROGRAM, IN A SANDBOX (cutbox-door.mjs). By AI agents, Wed Nov 11 2026. No macro, syntax, notation, axiom, sorry.
-/
import Derived.Test.YtfmoaonnknpobaaDoorRows
import GoSem.ClaimSeven
namespace Go.Proofs.YtfmoaonnknpobaaDoor
namespace Rows

/-- THE TIED CARD OF 'laws.FnRotationsGood'. -/
def fnRotationsGoodCard : Claim7 := { stood := { row := fnRotationsGoodRow, standIns := [], harness := (true, "50e1c5c798377367c812e4dfe763ccd4cfb2c72ef69da573c2f2c4b4940ed8f3"), looks := false }, kinds := [], alts := [], laidByText := true, laidKinds := [.data, .pinned], laidTests := true, laidLooks := .later }
def FnRotationsGoodCardSaid : Prop := Claim7.holds Tryd.pinned (.plain (OpenSpec.ofChange fnRotationsGoodSpec)) fnRotationsGoodCard

/-- THE SECOND FORM's CARD OF 'laws.FnRotationsGood'. -/
def fnRotationsGoodUptoCard : Claim7 := { stood := { row := fnRotationsGoodUptoRow, standIns := [], harness := (true, "50e1c5c798377367c812e4dfe763ccd4cfb2c72ef69da573c2f2c4b4940ed8f3"), looks := false }, kinds := [], alts := [], laidByText := true, laidKinds := [.data, .pinned], laidTests := true, laidLooks := .later }
def FnRotationsGoodUptoCardSaid : Prop := Claim7.holds Tryd.pinned (.plain (OpenSpec.upto fnRotationsGoodSpec)) fnRotationsGoodUptoCard
end Rows
end Go.Proofs.YtfmoaonnknpobaaDoor
