-- Words of the kit's print (print.sh), cut by a program of this repo to what this claim's texts name.
import Derived.Test.YtjjkglfpcdedlaaWInv
import Derived.Test.YtjjkglfpcdedlaaWFootNe
namespace Go.Proofs.YtjjkglfpcdedlaaW.PrintWords
open Go.RowKit
end Go.Proofs.YtjjkglfpcdedlaaW.PrintWords
namespace Go.Proofs.YtjjkglfpcdedlaaW.PrintLast
section
variable {ops : Array Oper} {a : Act} {o og : Oper} {g : Nat} {t : Tmp} {u : Bool}
end
end Go.Proofs.YtjjkglfpcdedlaaW.PrintLast
