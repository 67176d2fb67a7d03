-- Words of the kit's print (print.sh), cut by a program of this repo to what this claim's texts name.
import Derived.Test.YtjjkglfpcdedlabDoorWInv
import Derived.Test.YtjjkglfpcdedlabDoorWFootNe
namespace Go.Proofs.YtjjkglfpcdedlabDoorW.PrintWords
open Go.RowKit
end Go.Proofs.YtjjkglfpcdedlabDoorW.PrintWords
namespace Go.Proofs.YtjjkglfpcdedlabDoorW.PrintLast
section
variable {ops : Array Oper} {a : Act} {o og : Oper} {g : Nat} {t : Tmp} {u : Bool}
end
end Go.Proofs.YtjjkglfpcdedlabDoorW.PrintLast
