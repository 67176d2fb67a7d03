/- Words of our own for walks: a call through a function value (a closure with its captured pointers). Plain lemmas over any program. -/
import Derived.Test.YtfjpejdlgmlmhaaDoorWWords
import Derived.Test.YtfjpejdlgmlmhaaDoorWLast
import Derived.Test.YtfjpejdlgmlmhaaDoorWMore
import Derived.Shelf.Abstract
namespace Go.Proofs.YtfjpejdlgmlmhaaDoorZ
open Go.RowKit Go.Proofs.YtfjpejdlgmlmhaaDoorW.PrintWords Go.Proofs.YtfjpejdlgmlmhaaDoorW.PrintLast Go.Proofs.YtfjpejdlgmlmhaaDoorW.PrintMore
set_option linter.unusedVariables false
variable {P : Program} {ops : Array Oper} {Q : Exit → Act → World → Prop}

/-- The function of this number has a body: a call of it enters it. -/
theorem ent_of {g : FuncId} {fn : Func} (hf : P.funcs[g]? = some fn) (hname : (fn.name == "runtime.NumGoroutine") = false) (hb : fn.body.isSome = true) : Enters P g :=
  fun args w => enters_ hf hname hb args w

/-- What a function value of one whole number tells, in every world in which all that lay in w lies. -/
def Ora1 (P : Program) (g : FuncId) (lb : Array Value) (w : World) (of : Int → Option Int) : Prop :=
  ∀ (x t : Int) (W : World), Below w.heap.size w W → of x = some t → Calls P g (#[.int .i64 x] ++ lb) W fun e w' => e = .returned (.int .i64 t) ∧ Below W.heap.size W w'

end Go.Proofs.YtfjpejdlgmlmhaaDoorZ
