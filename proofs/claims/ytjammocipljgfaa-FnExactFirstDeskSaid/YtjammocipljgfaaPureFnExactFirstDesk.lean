/- The program's FirstDesk returns what the reference's returns, for all arguments (no condition). -/
import Derived.Test.YtjammocipljgfaaPFnExactFirstDeskx1
namespace Go.Proofs.Ytjammocipljgfaa.Pure
open Go.RowKit Go.Proofs.Ytjammocipljgfaa.PFnExactFirstDesk Go.Proofs.YtjammocipljgfaaW.PrintWords Go.Proofs.YtjammocipljgfaaW.PrintLast

/-- YOURS: laws_FnExactFirstDesk.f  = some true
What it reaches (each with k first where it has rounds; `.mono`: more rounds tell the same; `.l0`, ..: its loops, with `.mono_l`): spec_FirstDesk.f, impl_FirstDesk.f, laws_eqDesk.f, laws_FnExactFirstDesk.f -/
theorem FnExactFirstDesk : laws_FnExactFirstDesk.Pure := by
  unfold laws_FnExactFirstDesk.Pure
  decide +kernel

end Go.Proofs.Ytjammocipljgfaa.Pure
