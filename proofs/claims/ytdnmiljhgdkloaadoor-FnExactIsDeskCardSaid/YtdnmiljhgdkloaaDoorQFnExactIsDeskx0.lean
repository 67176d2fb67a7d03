/- Written by a program of this repo (xprint: a turned copy of the kit's print, with our own templates in it); Lean checks all of it. -/
import Derived.Test.YtdnmiljhgdkloaaDoorProg
import Derived.Below
import Derived.Deep.Draws
import Derived.Deep.AppendLies
import Derived.Maps.AppendAt
import Derived.OwnWalk
import Derived.Laws.BytesArg
import Derived.Laws.MakeOwn
import Derived.Laws.OwnMore
import Derived.Deep.OwnRows
import Derived.Tactics
import Derived.Lib.ConvBytes
import Derived.Laws.Slices
import Derived.WalkKit
import Derived.KernelRfl
import Derived.RowKit3
import Derived.Deep.LoopGhost
import Derived.Deep.QuietTactic
import Derived.BigQuiet
import Derived.WideLaws
import Derived.Deep.DeepCutAuto
import Derived.Deep.CutBlock
import Derived.Deep.RegionHeld3
import Derived.Laws.Rows
import Derived.Lib.AppendStr
import Derived.ArgAppend
import Derived.Laws.IdiomCopy
import Derived.OrdersHeld
import Derived.Laws.BitsLemmas
import Derived.RowKit
import Derived.Test.YtdnmiljhgdkloaaDoorZ
import Derived.Test.YtdnmiljhgdkloaaDoorZsh
import Derived.Test.YtdnmiljhgdkloaaDoorWWords
import Derived.Test.YtdnmiljhgdkloaaDoorWLast
import Derived.Test.YtdnmiljhgdkloaaDoorWTab
import Derived.Test.YtdnmiljhgdkloaaDoorWFour
import Derived.Test.YtdnmiljhgdkloaaDoorWQPut
import Derived.Test.YtdnmiljhgdkloaaDoorWApart
import Derived.Test.YtdnmiljhgdkloaaDoorWArr
import Derived.Test.YtdnmiljhgdkloaaDoorWZeros
import Derived.Test.YtdnmiljhgdkloaaDoorWFoot
import Derived.Test.YtdnmiljhgdkloaaDoorWKept
import Derived.Test.YtdnmiljhgdkloaaDoorWShare
import Derived.Test.YtdnmiljhgdkloaaDoorWN
import Derived.Test.YtdnmiljhgdkloaaDoorWFootNe
import Derived.Test.YtdnmiljhgdkloaaDoorWAt
import Derived.Test.YtdnmiljhgdkloaaDoorWEqStruct
import Derived.Test.YtdnmiljhgdkloaaDoorWRepsOne
import Derived.Test.YtdnmiljhgdkloaaDoorWInv
import Derived.Test.YtdnmiljhgdkloaaDoorWInvWords
import Derived.Test.YtdnmiljhgdkloaaDoorWGuard
import Derived.Test.YtdnmiljhgdkloaaDoorWNEv
import Derived.Test.YtdnmiljhgdkloaaDoorWMore
namespace Go.Proofs.YtdnmiljhgdkloaaDoor.QFnExactIsDesk
open Go.RowKit Go.Proofs.YtdnmiljhgdkloaaDoorZ Go.Proofs.YtdnmiljhgdkloaaDoorW.PrintWords Go.Proofs.YtdnmiljhgdkloaaDoorW.PrintLast Go.Proofs.YtdnmiljhgdkloaaDoorW.PrintMore
attribute [local go_sem] max2_int min2_int max_two min_two max_three min_three max_four min_four   -- for this text's walks alone
set_option linter.unusedVariables false
set_option linter.unusedSimpArgs false



def errW : Option Int → Value
  | none => .nilIface
  | some c => .iface 0 (.int .i64 c)
theorem errW_none : errW none = .nilIface := rfl
theorem errW_some (c : Int) : errW (some c) = .iface 0 (.int .i64 c) := rfl

-- the values' own types

end Go.Proofs.YtdnmiljhgdkloaaDoor.QFnExactIsDesk
