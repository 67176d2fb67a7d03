-- Words of the kit's print (print.sh), cut by a program of this repo to what this claim's texts name.
import Derived.Test.YtjjkglfpcdedlaaWTab
/-! ### 56. Four, five, six operations that may come up next, in any order -/
namespace Go.Proofs.YtjjkglfpcdedlaaW.PrintLast
section
variable {P : Program} {ops : Array Oper} {Q : Exit → Act → World → Prop} {md : Region.Mode} {S : World → Prop} {ds : List Nat} {T : Bool × List (List Nat × List Nat)}
end
end Go.Proofs.YtjjkglfpcdedlaaW.PrintLast
