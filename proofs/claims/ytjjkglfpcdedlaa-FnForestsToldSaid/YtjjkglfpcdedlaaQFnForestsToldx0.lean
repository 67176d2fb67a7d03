/- Written by a program of this repo (xprint: a turned copy of the kit's print, with our own templates in it); Lean checks all of it. -/
import Derived.Test.YtjjkglfpcdedlaaProg
import Derived.Below
import Derived.Deep.Draws
import Derived.Deep.AppendLies
import Derived.Maps.AppendAt
import Derived.OwnWalk
import Derived.Laws.BytesArg
import Derived.Laws.MakeOwn
import Derived.Laws.OwnMore
import Derived.Deep.OwnRows
import Derived.Tactics
import Derived.Lib.ConvBytes
import Derived.Laws.Slices
import Derived.WalkKit
import Derived.KernelRfl
import Derived.RowKit3
import Derived.Deep.LoopGhost
import Derived.Deep.QuietTactic
import Derived.BigQuiet
import Derived.WideLaws
import Derived.Deep.DeepCutAuto
import Derived.Deep.CutBlock
import Derived.Deep.RegionHeld3
import Derived.Laws.Rows
import Derived.Lib.AppendStr
import Derived.ArgAppend
import Derived.Laws.IdiomCopy
import Derived.OrdersHeld
import Derived.Laws.BitsLemmas
import Derived.RowKit
import Derived.Test.YtjjkglfpcdedlaaZ
import Derived.Test.YtjjkglfpcdedlaaZg
import Derived.Test.YtjjkglfpcdedlaaWWords
import Derived.Test.YtjjkglfpcdedlaaWLast
import Derived.Test.YtjjkglfpcdedlaaWTab
import Derived.Test.YtjjkglfpcdedlaaWFour
import Derived.Test.YtjjkglfpcdedlaaWQPut
import Derived.Test.YtjjkglfpcdedlaaWApart
import Derived.Test.YtjjkglfpcdedlaaWArr
import Derived.Test.YtjjkglfpcdedlaaWZeros
import Derived.Test.YtjjkglfpcdedlaaWFoot
import Derived.Test.YtjjkglfpcdedlaaWKept
import Derived.Test.YtjjkglfpcdedlaaWShare
import Derived.Test.YtjjkglfpcdedlaaWN
import Derived.Test.YtjjkglfpcdedlaaWFootNe
import Derived.Test.YtjjkglfpcdedlaaWAt
import Derived.Test.YtjjkglfpcdedlaaWEqStruct
import Derived.Test.YtjjkglfpcdedlaaWRepsOne
import Derived.Test.YtjjkglfpcdedlaaWInv
import Derived.Test.YtjjkglfpcdedlaaWInvWords
import Derived.Test.YtjjkglfpcdedlaaWGuard
import Derived.Test.YtjjkglfpcdedlaaWNEv
import Derived.Test.YtjjkglfpcdedlaaWMore
namespace Go.Proofs.Ytjjkglfpcdedlaa.QFnForestsTold
open Go.RowKit Go.Proofs.YtjjkglfpcdedlaaZ Go.Proofs.YtjjkglfpcdedlaaZg Go.Proofs.YtjjkglfpcdedlaaW.PrintWords Go.Proofs.YtjjkglfpcdedlaaW.PrintLast Go.Proofs.YtjjkglfpcdedlaaW.PrintMore
attribute [local go_sem] max2_int min2_int max_two min_two max_three min_three max_four min_four   -- for this text's walks alone
set_option linter.unusedVariables false
set_option linter.unusedSimpArgs false
-- Short names for words that the walks name hundreds of times.
theorem qA : type_of% @Kd.R_alloc := @Kd.R_alloc
theorem qB : type_of% @Kd.R_drewN := @Kd.R_drewN
theorem qC : type_of% @Kd.R_drew := @Kd.R_drew
theorem qD : type_of% @below_alloc := @below_alloc
theorem qE : type_of% @pw_below_drewN := @pw_below_drewN
theorem qF : type_of% @below_drew1 := @below_drew1
theorem qG : type_of% @Kd.C_alloc := @Kd.C_alloc
theorem qH : type_of% @Kd.C_drewN := @Kd.C_drewN
theorem qI : type_of% @Kd.C_drew := @Kd.C_drew



def errW : Option Int → Value
 | none => .nilIface
 | some c => .iface 0 (.int .i64 c)
theorem errW_none : errW none = .nilIface := rfl
theorem errW_some (c : Int) : errW (some c) = .iface 0 (.int .i64 c) := rfl

theorem info3 : (Try.prog.info? 3).map (fun i => (i.zero, i.size, i.bytes)) = some (some (.int .i64 0), 1, 8) := by kernel_rfl
theorem info24 : (Try.prog.info? 24).map (fun i => (i.zero, i.size, i.bytes)) = some (some (.slice none 0 0), 1, 24) := by kernel_rfl
-- the values' own types
def rd_L2 (xs : List (List Int)) (i : Int) : (List Int) := xs.getD i.toNat ([] : List Int)
theorem at_L2 {w : World} {A : Option Addr} {n : Nat} {xs : List (List Int)} (h : Kd.C (Kd.slice 3 (Kd.int .i64)) w A n xs) (i : Int) (h0 : 0 ≤ i) (h1 : i < n) : ∃ ad A0 c0, A = some ad ∧ w.cell? (ad.add i.toNat) = some (.slice A0 (rd_L2 xs i).length c0) ∧ (rd_L2 xs i).length ≤ c0 ∧ (Kd.int .i64).C w A0 (rd_L2 xs i).length (rd_L2 xs i) := by
 obtain ⟨ad, c, e, _, hK, hc0⟩ := Kd.C_get h ([] : List Int) i h0 h1
 have hc : ∀ j u, c[j]? = some u → w.cell? (ad.add (i.toNat * 1 + j)) = some u := hc0
 obtain ⟨A0, c0, rfl, l0, g0⟩ := hK
 exact ⟨ad, A0, c0, e, by have hq := hc 0 _ rfl; rwa [Nat.mul_one, Nat.add_zero] at hq, l0, g0⟩

end Go.Proofs.Ytjjkglfpcdedlaa.QFnForestsTold
