-- Words of the kit's print (print.sh), cut by a program of this repo to what this claim's texts name.
import Derived.Test.YtjjkglfpcdedlaaWN
/-! ### 52. A row that stays read whatever happens to a block (a set of blocks) doesn't lie there -/
namespace Go.Proofs.YtjjkglfpcdedlaaW.PrintWords
open Go.RowKit
namespace Kd
section
variable {α : Type} {d : Kd α} {W : World} {g n : Nat} {S ok : Nat → Prop} {A : Option Addr} {ad : Addr} {xs : List α}
end
end Kd
end Go.Proofs.YtjjkglfpcdedlaaW.PrintWords
