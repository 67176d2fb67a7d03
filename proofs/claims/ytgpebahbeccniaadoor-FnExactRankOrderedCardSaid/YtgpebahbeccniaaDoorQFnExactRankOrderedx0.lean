/- Written by a program of this repo (xprint: a turned copy of the kit's print, with our own templates in it); Lean checks all of it. -/
import Derived.Test.YtgpebahbeccniaaDoorProg
import Derived.Below
import Derived.Deep.Draws
import Derived.Deep.AppendLies
import Derived.Maps.AppendAt
import Derived.OwnWalk
import Derived.Laws.BytesArg
import Derived.Laws.MakeOwn
import Derived.Laws.OwnMore
import Derived.Deep.OwnRows
import Derived.Tactics
import Derived.Lib.ConvBytes
import Derived.Laws.Slices
import Derived.WalkKit
import Derived.KernelRfl
import Derived.RowKit3
import Derived.Deep.LoopGhost
import Derived.Deep.QuietTactic
import Derived.BigQuiet
import Derived.WideLaws
import Derived.Deep.DeepCutAuto
import Derived.Deep.CutBlock
import Derived.Deep.RegionHeld3
import Derived.Laws.Rows
import Derived.Lib.AppendStr
import Derived.ArgAppend
import Derived.Laws.IdiomCopy
import Derived.OrdersHeld
import Derived.Laws.BitsLemmas
import Derived.RowKit
import Derived.Test.YtgpebahbeccniaaDoorZ
import Derived.Test.YtgpebahbeccniaaDoorZm
import Derived.Test.YtgpebahbeccniaaDoorZt
import Derived.Test.YtgpebahbeccniaaDoorZsh
import Derived.Test.YtgpebahbeccniaaDoorWWords
import Derived.Test.YtgpebahbeccniaaDoorWLast
import Derived.Test.YtgpebahbeccniaaDoorWTab
import Derived.Test.YtgpebahbeccniaaDoorWFour
import Derived.Test.YtgpebahbeccniaaDoorWQPut
import Derived.Test.YtgpebahbeccniaaDoorWApart
import Derived.Test.YtgpebahbeccniaaDoorWArr
import Derived.Test.YtgpebahbeccniaaDoorWZeros
import Derived.Test.YtgpebahbeccniaaDoorWFoot
import Derived.Test.YtgpebahbeccniaaDoorWKept
import Derived.Test.YtgpebahbeccniaaDoorWShare
import Derived.Test.YtgpebahbeccniaaDoorWN
import Derived.Test.YtgpebahbeccniaaDoorWFootNe
import Derived.Test.YtgpebahbeccniaaDoorWAt
import Derived.Test.YtgpebahbeccniaaDoorWEqStruct
import Derived.Test.YtgpebahbeccniaaDoorWRepsOne
import Derived.Test.YtgpebahbeccniaaDoorWInv
import Derived.Test.YtgpebahbeccniaaDoorWInvWords
import Derived.Test.YtgpebahbeccniaaDoorWGuard
import Derived.Test.YtgpebahbeccniaaDoorWNEv
import Derived.Test.YtgpebahbeccniaaDoorWMore
namespace Go.Proofs.YtgpebahbeccniaaDoor.QFnExactRankOrdered
open Go.RowKit Go.Proofs.YtgpebahbeccniaaDoorZ Go.Proofs.YtgpebahbeccniaaDoorZm Go.Maps Go.Proofs.YtgpebahbeccniaaDoorZt Go.Proofs.YtgpebahbeccniaaDoorW.PrintWords Go.Proofs.YtgpebahbeccniaaDoorW.PrintLast Go.Proofs.YtgpebahbeccniaaDoorW.PrintMore
attribute [local go_sem] max2_int min2_int max_two min_two max_three min_three max_four min_four   -- for this text's walks alone
set_option linter.unusedVariables false
set_option linter.unusedSimpArgs false



def errW : Option Int → Value
  | none => .nilIface
  | some c => .iface 0 (.int .i64 c)
theorem errW_none : errW none = .nilIface := rfl
theorem errW_some (c : Int) : errW (some c) = .iface 0 (.int .i64 c) := rfl

theorem info3 : (Tryd.prog.info? 3).map (fun i => (i.zero, i.size, i.bytes)) = some (some (.int .i64 0), 1, 8) := by kernel_rfl
-- the values' own types

end Go.Proofs.YtgpebahbeccniaaDoor.QFnExactRankOrdered
