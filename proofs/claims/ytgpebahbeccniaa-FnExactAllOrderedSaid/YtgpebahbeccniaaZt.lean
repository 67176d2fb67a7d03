/- Words of our own for walks: arrays of four whole numbers (compared, kept in a block, stored into). Plain lemmas over any program. -/
import Derived.Test.YtgpebahbeccniaaZm
import Derived.ChangeKeysEq
import Derived.Laws.StructEq
namespace Go.Proofs.YtgpebahbeccniaaZt
open Go Go.RowKit Go.Proofs.YtgpebahbeccniaaZ Go.Proofs.YtgpebahbeccniaaW.PrintWords Go.Proofs.YtgpebahbeccniaaW.PrintLast Go.Proofs.YtgpebahbeccniaaW.PrintMore
set_option linter.unusedVariables false
variable {P : Program} {ops : Array Oper} {Q : Exit → Act → World → Prop} {o : Oper} {rest : List Oper} {a : Act}

/-- Two arrays of four whole numbers, compared. -/
theorem eqArr4 {t e : TypeId} (hu : P.underlying t = some (.array 4 e)) (he : P.underlying e = some (.int .i64)) (hI : (P.info? e).map (·.size) = some 1) (d : Nat) (w : World) (x0 x1 x2 x3 y0 y1 y2 y3 : Int) :
    (Op.equalIn (d + 2) t (.agg #[.int .i64 x0, .int .i64 x1, .int .i64 x2, .int .i64 x3]) (.agg #[.int .i64 y0, .int .i64 y1, .int .i64 y2, .int .i64 y3])).run P w = .ok (x0 == y0 && (x1 == y1 && (x2 == y2 && x3 == y3))) w := by
  obtain ⟨i, hi⟩ : ∃ i, P.info? e = some i := by
    cases h : P.info? e with
    | none => rw [h] at hI; cases hI
    | some i => exact ⟨i, rfl⟩
  have hc : P.cellsOf e = 1 := by simp [Program.cellsOf, hI]
  rw [run_equalIn_array w (d + 1) _ _ hu hi, hc]
  have hp : ∀ (xs : Array Value) (j : Nat) (x : Int) (w : World), xs[j]? = some (.int .i64 x) → (part e xs (j * 1)).run P w = .ok (.int .i64 x) w := by
    intro xs j x w hx
    simp [part, isAgg, run_underlying he, hx, size_of_info hI, Sem.run_bind]
  have hs : ∀ (xs ys : Array Value) (j : Nat) (js : List Nat) (x y : Int) (r : Bool) (w : World), xs[j]? = some (.int .i64 x) → ys[j]? = some (.int .i64 y) → (Op.eqItems (d + 1) e 1 xs ys js).run P w = .ok r w → (Op.eqItems (d + 1) e 1 xs ys (j :: js)).run P w = .ok (x == y && r) w := by
    intro xs ys j js x y r w hx hy hr
    simp only [Op.eqItems, Sem.run_bind, hp xs j x w hx, hp ys j y w hy, run_equalIn_int w d e .i64 .i64 x y he, Result.andThen_ok]
    cases x == y
    · simp
    · simpa using hr
  have h0 : (Op.eqItems (d + 1) e 1 #[.int .i64 x0, .int .i64 x1, .int .i64 x2, .int .i64 x3] #[.int .i64 y0, .int .i64 y1, .int .i64 y2, .int .i64 y3] []).run P w = .ok true w := by simp [Op.eqItems]
  have h3 := hs _ _ 3 [] x3 y3 _ w rfl rfl h0
  have h2 := hs _ _ 2 [3] x2 y2 _ w rfl rfl h3
  have h1 := hs _ _ 1 [2, 3] x1 y1 _ w rfl rfl h2
  have := hs _ _ 0 [1, 2, 3] x0 y0 _ w rfl rfl h1
  rw [Bool.and_true] at this
  exact this
/-- .. as an operation ('=='). -/
theorem zEqArr4 {W : World} (hgd : o.guard = none) {t t2 e : TypeId} {x y : Operand} {x0 x1 x2 x3 y0 y1 y2 y3 : Int} {r : Bool} (ho : o.op = .binOp .eql t x y t2) (hu : P.underlying t = some (.array 4 e)) (he : P.underlying e = some (.int .i64)) (hI : (P.info? e).map (·.size) = some 1) (hm : P.eqGuardType P.depth t = false)
    (hx : a.eval x = .agg #[.int .i64 x0, .int .i64 x1, .int .i64 x2, .int .i64 x3]) (hy : a.eval y = .agg #[.int .i64 y0, .int .i64 y1, .int .i64 y2, .int .i64 y3]) (hr : (x0 == y0 && (x1 == y1 && (x2 == y2 && x3 == y3))) = r)
    (h : wpList P ops Q rest (a.put o.dst (.bool r)) W) : wpList P ops Q (o :: rest) a W := by
  refine Kd.event_run hgd ?_ h
  unfold execOp
  rw [ho]
  simp only [hx, hy]
  have h1 := eqArr4 hu he hI 9998 W x0 x1 x2 x3 y0 y1 y2 y3
  rw [hr] at h1
  simp [Sem.run_bind, run_eqGuard_agg W .eql t _ _ _ _ hm, run_eql_struct, h1, Result.andThen]
/-- .. ('!='). -/
theorem zNeqArr4 {W : World} (hgd : o.guard = none) {t t2 e : TypeId} {x y : Operand} {x0 x1 x2 x3 y0 y1 y2 y3 : Int} {r : Bool} (ho : o.op = .binOp .neq t x y t2) (hu : P.underlying t = some (.array 4 e)) (he : P.underlying e = some (.int .i64)) (hI : (P.info? e).map (·.size) = some 1) (hm : P.eqGuardType P.depth t = false)
    (hx : a.eval x = .agg #[.int .i64 x0, .int .i64 x1, .int .i64 x2, .int .i64 x3]) (hy : a.eval y = .agg #[.int .i64 y0, .int .i64 y1, .int .i64 y2, .int .i64 y3]) (hr : (x0 == y0 && (x1 == y1 && (x2 == y2 && x3 == y3))) = r) {r' : Bool} (hr' : (!r) = r')
    (h : wpList P ops Q rest (a.put o.dst (.bool r')) W) : wpList P ops Q (o :: rest) a W := by
  subst hr'
  refine Kd.event_run hgd ?_ h
  unfold execOp
  rw [ho]
  simp only [hx, hy]
  have h1 := eqArr4 hu he hI 9998 W x0 x1 x2 x3 y0 y1 y2 y3
  rw [hr] at h1
  simp [Sem.run_bind, run_eqGuard_agg W .neq t _ _ _ _ hm, run_neq_struct, h1, Result.andThen]
/-- The whole of a block of four numbers, read. -/
theorem zLoadBox4 {W : World} (hgd : o.guard = none) {t t' e : TypeId} {p : Operand} {g : Nat} {x0 x1 x2 x3 : Int} (ho : o.op = .load t p) (hu : P.underlying t = some (.array 4 e)) (hI : (P.info? t).map (·.size) = some 4)
    (hp : a.eval p = .pointer (some ⟨g, 0, none⟩)) (hg : W.heap[g]? = some (.cells #[.int .i64 x0, .int .i64 x1, .int .i64 x2, .int .i64 x3] t' (0, 0)))
    (h : wpList P ops Q rest (a.put o.dst (.agg #[.int .i64 x0, .int .i64 x1, .int .i64 x2, .int .i64 x3])) W) : wpList P ops Q (o :: rest) a W :=
  wpList_load_row hgd t p ho g hp t' _ (0, 0) (.array 4 e) hg hu rfl hI h
theorem grown_setRow (w : World) (g : Nat) (cs : Array Value) : w.grownBy (w.setRow g cs) (some g) := ⟨rfl, rfl, rfl, by simp [World.setRow], fun i _ hi => setRow_other w g i cs (fun e => hi (by rw [e]))⟩
theorem grown_own {w w' w'' : World} {row : Option Nat} {g : Nat} (h : w.grownBy w' row) (h2 : w'.grownBy w'' (some g)) (hg : w.heap.size ≤ g) : w.grownBy w'' row :=
  ⟨h2.os.trans h.os, h2.tape.trans h.tape, h2.output.trans h.output, Nat.le_trans h.size h2.size, fun i hi hr => (h2.block i (Nat.lt_of_lt_of_le hi h.size) (fun e => by injection e with e; omega)).trans (h.block i hi hr)⟩
/-- The whole of a block of four numbers, stored into. -/
theorem zStoreBox4 {W : World} (hgd : o.guard = none) {t t' : TypeId} {p v : Operand} {g : Nat} {x0 x1 x2 x3 y0 y1 y2 y3 : Int} (ho : o.op = .store t p v) (hd : o.dst = none) (hI : (P.info? t).map (·.size) = some 4)
    (hp : a.eval p = .pointer (some ⟨g, 0, none⟩)) (hv : a.eval v = .agg #[.int .i64 y0, .int .i64 y1, .int .i64 y2, .int .i64 y3]) (hg : W.heap[g]? = some (.cells #[.int .i64 x0, .int .i64 x1, .int .i64 x2, .int .i64 x3] t' (0, 0)))
    (h : ∀ w', w'.heap[g]? = some (.cells #[.int .i64 y0, .int .i64 y1, .int .i64 y2, .int .i64 y3] t' (0, 0)) → W.grownBy w' (some g) → wpList P ops Q rest a w') : wpList P ops Q (o :: rest) a W := by
  refine wpList_store_row hgd t p v ho g _ hp hv t' _ hg hI rfl (by simp [Value.oneCell']) ?_
  rw [hd]
  exact h _ (setRow_heap W g _ _ t' _ hg) (grown_setRow W g _)
/-- One number of a block of four, read. -/
theorem zLoadAt {W : World} {k : IntKind} (hgd : o.guard = none) {t t' : TypeId} {p : Operand} {g i : Nat} {cs : Array Value} {x : Int} (ho : o.op = .load t p) (hu : P.underlying t = some (.int k))
    (hp : a.eval p = .pointer (some ⟨g, i, none⟩)) (hg : W.heap[g]? = some (.cells cs t' (0, 0))) (hx : cs[i]? = some (.int k x))
    (h : wpList P ops Q rest (a.put o.dst (.int k x)) W) : wpList P ops Q (o :: rest) a W := by
  refine Kd.event_run hgd ?_ h
  unfold execOp
  rw [ho]
  have hc : W.cell? ⟨g, i, none⟩ = some (.int k x) := (blk_cell hg i).trans hx
  simp only [hp]
  simp [Instr.loadAt, Instr.sureAddr, loadVar, isAgg, run_underlying hu, Sem.run_bind, Result.andThen, hc, go_sem]
/-- One number of a block of four, stored into. -/
theorem zStoreAt {W : World} {k : IntKind} (hgd : o.guard = none) {t t' : TypeId} {p v : Operand} {g i : Nat} {cs : Array Value} {x : Int} (ho : o.op = .store t p v) (hd : o.dst = none) (hI : (P.info? t).map (·.size) = some 1)
    (hp : a.eval p = .pointer (some ⟨g, i, none⟩)) (hv : a.eval v = .int k x) (hg : W.heap[g]? = some (.cells cs t' (0, 0))) (hi : i < cs.size)
    (h : ∀ w', w'.heap[g]? = some (.cells (cs.setIfInBounds i (.int k x)) t' (0, 0)) → W.grownBy w' (some g) → wpList P ops Q rest a w') : wpList P ops Q (o :: rest) a W := by
  have hc : ∃ u, W.cell? ⟨g, i, none⟩ = some u := ⟨cs[i], (blk_cell hg i).trans (by simp [hi])⟩
  obtain ⟨u, hc⟩ := hc
  have hf : W.frozen? ⟨g, i, none⟩ = false := blk_frozen hg i
  refine wpList_plain hgd fun K hK => ?_
  unfold Oper.wp execOp
  rw [ho]
  simp only [hp, hv]
  have hrun : (Instr.storeAt t (.pointer (some ⟨g, i, none⟩)) (.int k x)).run P W = .ok () (W.setCell ⟨g, i, none⟩ (.int k x)) := by
    simp [Instr.storeAt, Instr.sureAddr, storeVar, size_of_info hI, Sem.run_bind, Result.andThen, hc, hf, go_sem, Value.cells, storeCells]
  simp only [Sem.run_bind, hrun, Result.andThen_ok, Sem.run_pure]
  show K (a.put o.dst undef) _
  rw [hd]
  refine hK _ _ (h _ (blk_set hg i _) ⟨rfl, rfl, rfl, by simp [World.setCell], fun j _ hj => Below.heap_setCell W ⟨g, i, none⟩ _ j (fun e => hj (by rw [e]))⟩)
end Go.Proofs.YtgpebahbeccniaaZt
