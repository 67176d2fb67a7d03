-- Words of the kit's print (print.sh), cut by a program of this repo to what this claim's texts name.
/- Words of our own for walks: a call through a function value (a closure with its captured pointers). Plain lemmas over any program. -/
import Derived.Test.YtjjkglfpcdedlaaWWords
import Derived.Test.YtjjkglfpcdedlaaWLast
import Derived.Test.YtjjkglfpcdedlaaWMore
import Derived.Test.YtjjkglfpcdedlaaWApart
import Derived.Test.YtjjkglfpcdedlaaWKept
import Derived.Shelf.Abstract
namespace Go.Proofs.YtjjkglfpcdedlaaZ
open Go.RowKit Go.Proofs.YtjjkglfpcdedlaaW.PrintWords Go.Proofs.YtjjkglfpcdedlaaW.PrintLast Go.Proofs.YtjjkglfpcdedlaaW.PrintMore
set_option linter.unusedVariables false
variable {P : Program} {ops : Array Oper} {Q : Exit → Act → World → Prop}

theorem ent_of {g : FuncId} {fn : Func} (hf : P.funcs[g]? = some fn) (hname : (fn.name == "runtime.NumGoroutine") = false) (hb : fn.body.isSome = true) : Enters P g :=
  fun args w => enters_ hf hname hb args w

structure FnB (P : Program) where
  g : FuncId
  f : Int → Bool
  he : Enters P g
  hof : ∀ (x : Int) (W : World), Calls P g (#[.int .i64 x] ++ #[]) W fun e w' => e = .returned (.bool (f x)) ∧ Drawn0 W w'
section
variable {o : Oper} {rest : List Oper} {a : Act}
end

end Go.Proofs.YtjjkglfpcdedlaaZ
