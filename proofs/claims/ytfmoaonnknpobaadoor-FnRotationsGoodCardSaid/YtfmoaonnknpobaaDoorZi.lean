/- Words of our own: a string's iterator (a range over a string) beside rows: what its making and its moving on leave. Plain lemmas over any program. -/
import Derived.Test.YtfmoaonnknpobaaDoorZ
import Derived.Lib.OthersKept
namespace Go.Proofs.YtfmoaonnknpobaaDoorZi
open Go.RowKit Go.Proofs.YtfmoaonnknpobaaDoorW.PrintWords Go.Proofs.YtfmoaonnknpobaaDoorW.PrintLast Go.Proofs.YtfmoaonnknpobaaDoorW.PrintMore
set_option linter.unusedVariables false
/-- A string's iterator stands in block g. -/
def It (w : World) (g : Nat) (s : ByteArray) (pos : Nat) : Prop := w.heap[g]? = some (.stringIter s pos)
section
variable {P : Program} {ops : Array Oper} {Q : Exit → Act → World → Prop} {o : Oper} {rest : List Oper} {a : Act}
variable {α : Type} {d : Kd α} {e base : Nat} {ok : Nat → Prop} {w w1 W : World} {v : Value} {xs : List α} {g g2 pos : Nat} {s s2 : ByteArray}
theorem It.lt (h : It w g s pos) : g < w.heap.size := (Array.getElem?_eq_some_iff.1 h).1
theorem It.below (h : It w g s pos) (hb : Below w.heap.size w w1) : It w1 g s pos := (hb.block g h.lt).trans h
theorem It.alloc (h : It w g s pos) (o : Obj) : It (w.alloc o) g s pos := h.below (below_alloc (Below.refl _ _) o)
theorem It.drewN (h : It w g s pos) (m : Nat) : It (w.drewN m) g s pos := h
theorem It.drew (h : It w g s pos) : It w.drew g s pos := h
theorem It.at_ {m : Nat} (hq : W.drewN m = w1) (h : It W g s pos) : It w1 g s pos := by subst hq; exact h
/-- Another row (a block of cells) has been written. -/
theorem It.grown (h : It w g s pos) (hr : d.R e w base ok v xs) (hg : w.grownBy w1 v.ownBlock) : It w1 g s pos := by
  refine (hg.block g h.lt fun hk => ?_).trans h
  obtain ⟨inner, ho⟩ := Kd.R_own hr
  obtain ⟨cells, hc⟩ := own_typed ho g hk.symm
  have h2 : w.heap[g]? = some (.stringIter s pos) := h
  rw [h2] at hc
  cases hc
theorem It.moved (h : It w g s pos) (p : Nat) : It (w.iterAt g s p) g s p := Lib.iterAt_heap w g s pos p h
theorem It.other (h : It w g s pos) (hn : g ≠ g2) (p : Nat) : It (w.iterAt g2 s2 p) g s pos := (Lib.iterAt_other w g2 g s2 p hn).trans h
theorem R_iter (h : d.R e w base ok v xs) (hi : It w g s pos) (p : Nat) : d.R e (w.iterAt g s p) base ok v xs := by
  refine Kd.R_mono (Kd.R_move (Kd.R_bound h) (fun k hk => ?_)) (fun _ hk => hk.1)
  refine Lib.iterAt_other w g k s p fun e1 => ?_
  obtain ⟨_, _, _, q, _, cells, hc⟩ := hk
  have h2 : w.heap[g]? = some (.stringIter s pos) := hi
  rw [e1, h2] at hc
  cases hc
/-- The iterator is made. -/
theorem range_event (hgd : o.guard = none) {t : TypeId} {x : Operand} (ho : o.op = .range t x) (hx : a.eval x = .string s) (ht : P.underlying t = some .string)
    (h : ∀ g, g = W.heap.size → ∀ w1, It w1 g s 0 → Below W.heap.size W w1 → wpList P ops Q rest (a.put o.dst (.pointer (some ⟨g, 0, none⟩))) w1) : wpList P ops Q (o :: rest) a W := by
  refine Kd.event_run (w1 := W.iter s 0) (v := .pointer (some ⟨W.heap.size, 0, none⟩)) hgd ?_ (h _ rfl _ (World.iter_heap W s 0) (below_alloc (Below.refl _ _) _))
  unfold execOp
  simp only [ho, hx, Sem.run_bind, run_range_string W t s ht, Result.andThen]
  rfl
/-- The iterator moves on. -/
theorem next_event (hgd : o.guard = none) {p : Operand} (ho : o.op = .next p true) (hp : a.eval p = .pointer (some ⟨g, 0, none⟩)) (hi : It W g s pos) (hlt : pos < s.size)
    (h : wpList P ops Q rest (a.put o.dst (.tuple #[.bool true, .int .i64 pos, .int .i32 (Utf8.decode s pos).1])) (W.iterAt g s (pos + (Utf8.decode s pos).2))) : wpList P ops Q (o :: rest) a W := by
  refine Kd.event_run hgd ?_ h
  unfold execOp
  simp only [ho, hp, Sem.run_bind, Lib.run_next_any_at W g s pos o.type hi hlt, Result.andThen]
  rfl
theorem next_end (hgd : o.guard = none) {p : Operand} (ho : o.op = .next p true) (hp : a.eval p = .pointer (some ⟨g, 0, none⟩)) (hi : It W g s pos) (hlt : ¬ pos < s.size)
    (h : wpList P ops Q rest (a.put o.dst (.tuple #[.bool false])) W) : wpList P ops Q (o :: rest) a W := by
  refine Kd.event_run hgd ?_ h
  unfold execOp
  simp only [ho, hp, Sem.run_bind, Lib.run_next_end_at W g s pos o.type hi hlt, Result.andThen]
  rfl
/-- One iterator has moved on. -/
def Moved (w w1 : World) (g : Nat) : Prop := ∃ s p p', It w g s p ∧ w1 = w.iterAt g s p'
theorem R_moved (h : d.R e w base ok v xs) (m : Moved w w1 g) : d.R e w1 base ok v xs := by
  obtain ⟨s, p, p', hi, rfl⟩ := m
  exact R_iter h hi p'
theorem below_moved {w0 : World} (h : Below base w0 w) (m : Moved w w1 g) (hg : base ≤ g) : Below base w0 w1 := by
  obtain ⟨s, p, p', hi, rfl⟩ := m
  exact Lib.below_iterAt h hg s p'
theorem It.movedO (h : It w g2 s2 pos) (m : Moved w w1 g) (hn : g2 ≠ g) : It w1 g2 s2 pos := by
  obtain ⟨s, p, p', hi, rfl⟩ := m
  exact h.other hn p'
theorem next_move {z c : Int} (hgd : o.guard = none) {p : Operand} (ho : o.op = .next p true) (hp : a.eval p = .pointer (some ⟨g, 0, none⟩)) (hi : It W g s pos) (hlt : pos < s.size) (hz : (pos : Int) = z) (hc : (((Utf8.decode s pos).1 : Nat) : Int) = c)
    (h : ∀ w1, It w1 g s (pos + (Utf8.decode s pos).2) → Moved W w1 g → wpList P ops Q rest (a.put o.dst (.tuple #[.bool true, .int .i64 z, .int .i32 c])) w1) : wpList P ops Q (o :: rest) a W := by
  subst hz hc
  exact next_event hgd ho hp hi hlt (h _ (hi.moved _) ⟨s, pos, _, hi, rfl⟩)
/-- The iterator is made, as one step of a region that draws. -/
theorem range_step {Kc : Act → World → Prop} (hw : Region.wanted o (yielded ops a.tmps) = true) {t : TypeId} {x : Operand} (ho : o.op = .range t x) (hx : a.eval x = .string s) (ht : P.underlying t = some .string)
    (h : ∀ g, g = W.heap.size → ∀ w1, It w1 g s 0 → Below W.heap.size W w1 → Kc (a.put o.dst (.pointer (some ⟨g, 0, none⟩))) w1) : if Region.wanted o (yielded ops a.tmps) = true then Oper.wp P o a W Kc Q else Kc (a.put o.dst undef) W := by
  refine event_step (w1 := W.iter s 0) (v := .pointer (some ⟨W.heap.size, 0, none⟩)) hw ?_ (h _ rfl _ (World.iter_heap W s 0) (below_alloc (Below.refl _ _) _))
  unfold execOp
  simp only [ho, hx, Sem.run_bind, run_range_string W t s ht, Result.andThen]
  rfl
theorem pos_next {x : Int} (h : 0 ≤ x) (n : Nat) : x.toNat + n = (x + (n : Int)).toNat := by omega
theorem pos_lt {x : Int} (h0 : 0 ≤ x) (h : x < (s.size : Int)) : x.toNat < s.size := by omega
theorem pos_nlt {x : Int} (h : ¬ x < (s.size : Int)) : ¬ x.toNat < s.size := by omega
end
end Go.Proofs.YtfmoaonnknpobaaDoorZi
