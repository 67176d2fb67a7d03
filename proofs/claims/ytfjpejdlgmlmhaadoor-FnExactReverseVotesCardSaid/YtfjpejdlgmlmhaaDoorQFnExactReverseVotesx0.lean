/- Written by a program of this repo (xprint: a turned copy of the kit's print, with our own templates in it); Lean checks all of it. -/
import Derived.Test.YtfjpejdlgmlmhaaDoorProg
import Derived.Below
import Derived.Deep.Draws
import Derived.Deep.AppendLies
import Derived.Maps.AppendAt
import Derived.OwnWalk
import Derived.Laws.BytesArg
import Derived.Laws.MakeOwn
import Derived.Laws.OwnMore
import Derived.Deep.OwnRows
import Derived.Tactics
import Derived.Lib.ConvBytes
import Derived.Laws.Slices
import Derived.WalkKit
import Derived.KernelRfl
import Derived.RowKit3
import Derived.Deep.LoopGhost
import Derived.Deep.QuietTactic
import Derived.BigQuiet
import Derived.WideLaws
import Derived.Deep.DeepCutAuto
import Derived.Deep.CutBlock
import Derived.Deep.RegionHeld3
import Derived.Laws.Rows
import Derived.Lib.AppendStr
import Derived.ArgAppend
import Derived.Laws.IdiomCopy
import Derived.OrdersHeld
import Derived.Laws.BitsLemmas
import Derived.RowKit
import Derived.Test.YtfjpejdlgmlmhaaDoorZ
import Derived.Test.YtfjpejdlgmlmhaaDoorZb
import Derived.Test.YtfjpejdlgmlmhaaDoorZsh
import Derived.Test.YtfjpejdlgmlmhaaDoorWWords
import Derived.Test.YtfjpejdlgmlmhaaDoorWLast
import Derived.Test.YtfjpejdlgmlmhaaDoorWTab
import Derived.Test.YtfjpejdlgmlmhaaDoorWFour
import Derived.Test.YtfjpejdlgmlmhaaDoorWQPut
import Derived.Test.YtfjpejdlgmlmhaaDoorWApart
import Derived.Test.YtfjpejdlgmlmhaaDoorWArr
import Derived.Test.YtfjpejdlgmlmhaaDoorWZeros
import Derived.Test.YtfjpejdlgmlmhaaDoorWFoot
import Derived.Test.YtfjpejdlgmlmhaaDoorWKept
import Derived.Test.YtfjpejdlgmlmhaaDoorWShare
import Derived.Test.YtfjpejdlgmlmhaaDoorWN
import Derived.Test.YtfjpejdlgmlmhaaDoorWFootNe
import Derived.Test.YtfjpejdlgmlmhaaDoorWAt
import Derived.Test.YtfjpejdlgmlmhaaDoorWEqStruct
import Derived.Test.YtfjpejdlgmlmhaaDoorWRepsOne
import Derived.Test.YtfjpejdlgmlmhaaDoorWInv
import Derived.Test.YtfjpejdlgmlmhaaDoorWInvWords
import Derived.Test.YtfjpejdlgmlmhaaDoorWGuard
import Derived.Test.YtfjpejdlgmlmhaaDoorWNEv
import Derived.Test.YtfjpejdlgmlmhaaDoorWMore
namespace Go.Proofs.YtfjpejdlgmlmhaaDoor.QFnExactReverseVotes
open Go.RowKit Go.Proofs.YtfjpejdlgmlmhaaDoorZ Go.Proofs.YtfjpejdlgmlmhaaDoorZb Go.Proofs.YtfjpejdlgmlmhaaDoorW.PrintWords Go.Proofs.YtfjpejdlgmlmhaaDoorW.PrintLast Go.Proofs.YtfjpejdlgmlmhaaDoorW.PrintMore
attribute [local go_sem] max2_int min2_int max_two min_two max_three min_three max_four min_four   -- for this text's walks alone
set_option linter.unusedVariables false
set_option linter.unusedSimpArgs false



def errW : Option Int → Value
  | none => .nilIface
  | some c => .iface 0 (.int .i64 c)
theorem errW_none : errW none = .nilIface := rfl
theorem errW_some (c : Int) : errW (some c) = .iface 0 (.int .i64 c) := rfl

-- the values' own types

end Go.Proofs.YtfjpejdlgmlmhaaDoor.QFnExactReverseVotes
