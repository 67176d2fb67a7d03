-- Words of the kit's print (print.sh), cut by a program of this repo to what this claim's texts name.
import Derived.Test.YtjjkglfpcdedlaaWWords
import Derived.Laws.StructEq
/-! ### 53. '==' of structs as_ one Bool -/
namespace Go.Proofs.YtjjkglfpcdedlaaW.PrintWords
open Go.RowKit
section
variable {P : Program} {d : Nat} {xs ys : Array Value} {f : Field} {fs : List Field} {a b : Value} {r s : Bool} {w : World}
end
end Go.Proofs.YtjjkglfpcdedlaaW.PrintWords
