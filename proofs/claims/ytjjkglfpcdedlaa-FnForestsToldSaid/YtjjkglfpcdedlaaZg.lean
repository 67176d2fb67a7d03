-- Words of the kit's print (print.sh), cut by a program of this repo to what this claim's texts name.
/- A region within a round of a range over a function, walked as everywhere: the plain calculus's rules serve in a round's frame of the wide fence. -/
import Derived.RangeFuncNested
import Derived.RangeFuncBound
import Derived.RangeFuncCalls
import Derived.RangeFuncLeaves
import Derived.RangeFuncBox
import Derived.OrdersIn
import Derived.Shelf.Abstract
import Derived.WalkKit
import Derived.OwnWalkIn
import Derived.TacticsInMore
import Derived.LoopNIn
import Derived.LoopIn
import Derived.Test.YtjjkglfpcdedlaaWLast
namespace Go.Proofs.YtjjkglfpcdedlaaZg
open Go.RowKit Go.Proofs.YtjjkglfpcdedlaaW.PrintLast

def noDefer (ops : Array Oper) : Bool := ops.all fun o => match o.op with | .defer _ => false | _ => true
theorem noDefer_spec {ops : Array Oper} (h : noDefer ops = true) {i : Nat} {o : Oper} (hi : ops[i]? = some o) : ∀ c, o.op ≠ .defer c := by
  intro c hc
  obtain ⟨hl, he⟩ := Array.getElem?_eq_some_iff.1 hi
  have h1 := Array.all_eq_true.1 h i hl
  rw [he, hc] at h1
  cases h1

theorem rows_in {n : Nat} {P : Program} {row : String} {args : Array Value} {w : World} {R : Value → World → Prop} (h : Rows P row args w R) : RowsIn Fence.wide n P row args w R := fun c cs _ =>
  let ⟨v, w', r, s⟩ := h c cs
  ⟨v, w', r, stepsIn_wide.2 s⟩

theorem oper_in {l n : Nat} {P : Program} {o : Oper} {a : Act} {w : World} {K : Act → World → Prop} {Q : Exit → Act → World → Prop} (hd : ∀ c, o.op ≠ .defer c) (h : o.wp P a w K Q) : o.wpIn (Fence.wide.inRound l) n P a w K Q := by
  refine ⟨fun _ _ => trivial, ?_⟩
  show o.uponIn (Fence.wide.inRound l) n P a K Q ((Oper.semAt (some l) a.eval o).run P w)
  rw [Oper.semAt_some l _ _ hd]
  unfold Oper.wp at h
  generalize (execOp a.eval o).run P w = r at h
  cases r with
  | ok x w' =>
    cases x <;> simp only [Oper.upon, Oper.uponIn] at h ⊢
    case value => exact h
    case skip => exact h
    case defer => exact h
    case enter => exact ⟨fun h' => (by cases h'), CallsIn.inRound l (callsIn_wide.2 h)⟩
    case row => exact ⟨fun h' => (by cases h'), rows_in h⟩
  | halt x w' => cases x <;> simp only [Oper.upon, Oper.uponIn] at h ⊢ <;> exact h

theorem any_in {l n : Nat} {P : Program} {ops : Array Oper} {md : Region.Mode} {Q : Exit → Act → World → Prop} (hd : noDefer ops = true) (hQ : ∀ a w, ¬ Q .outgrown a w) :
    ∀ (fuel : Nat) (listed : Array Bool) (a : Act) (w : World), wpAny P md ops Q fuel listed a w → wpAnyIn (Fence.wide.inRound l) n P md ops Q fuel listed a w
  | 0, _, _, _, h => h
  | fuel + 1, listed, a, w, h => by
    refine ⟨h.1, fun i hi => ?_⟩
    have h1 := h.2 i hi
    unfold wpOp at h1
    unfold wpOpIn
    cases ho : ops[i]? with
    | none =>
      rw [ho] at h1
      exact any_in hd hQ fuel _ _ _ h1
    | some o =>
      rw [ho] at h1
      simp only at h1 ⊢
      by_cases hw : Region.wanted o (yielded ops a.tmps) = true
      · rw [if_pos hw] at h1 ⊢
        rcases h1 with h2 | ⟨_, a', w', h2⟩
        · exact oper_in (noDefer_spec hd ho) (Oper.wp_mono (fun a w h3 => any_in hd hQ fuel _ a w h3) h2)
        · exact (hQ a' w' h2).elim
      · rw [if_neg hw] at h1 ⊢
        exact ⟨fun _ _ => trivial, any_in hd hQ fuel _ _ _ h1⟩

theorem startIn_ {P : Program} {ops : Array Oper} {Q : Exit → Act → World → Prop} {S : World → Prop} {ds : List Nat} {id n l m : Nat} {a : Act} {w : World} (L : Array Bool) (hm : P.follows .mixedOrders = true) (hd : noDefer ops = true) (hQ : ∀ a w, ¬ Q .outgrown a w)
    (hn : ops.size = n) (hl : Array.replicate n false = L) (hS : S w.drew) (h : S w.drew → wpAnyLast P .any ops Q S ds n L a w.drew) : (Code.region id ops true).wpIn (Fence.wide.inRound l) m P Q a w := by
  subst hn
  subst hl
  exact wpIn_region_any hm (any_in hd hQ _ _ _ _ (wpAny_of_last _ _ _ _ (h hS)))

def KB (S : Nat → Prop) (W W' : World) : Prop := ∀ k, S k → W'.heap[k]? = W.heap[k]?
theorem KB.refl (S : Nat → Prop) (W : World) : KB S W W := fun _ _ => rfl
theorem KB.t {S : Nat → Prop} {A B C : World} (h : KB S A B) (k : KB S B C) : KB S A C := fun i hi => (k i hi).trans (h i hi)
theorem KB.cell {S : Nat → Prop} {W W' : World} (h : KB S W W') {p : Addr} (hk : S p.block) : W'.cell? p = W.cell? p := by simp [World.cell?, h _ hk]
theorem KB.b {S : Nat → Prop} {w : World} (hS : ∀ k, S k → k < w.heap.size) (W : World) (l : Nat) (o' : Obj) (hl : w.heap.size ≤ l) : KB S W (W.putObj l o') := fun k hk => World.putObj_heap_other (by have := hS k hk; omega)
theorem KB.grown {S : Nat → Prop} {W W' : World} {row : Option Nat} (hg : W.grownBy W' row) (hS : ∀ k, S k → k < W.heap.size ∧ some k ≠ row) : KB S W W' := fun k hk => hg.block k (hS k hk).1 (hS k hk).2
theorem KB.below {S : Nat → Prop} {W W' : World} {n₀ : Nat} (hb : Below n₀ W W') (hS : ∀ k, S k → k < n₀) : KB S W W' := fun k hk => hb.block k (hS k hk)
end Go.Proofs.YtjjkglfpcdedlaaZg
