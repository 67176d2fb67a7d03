/- Words of our own for walks: a map that a closure keeps as a memory of what it has reckoned ('out, is := known[key]'; 'known[key] = out'). Plain lemmas over any program. -/
import Derived.Test.YtjjkglfpcdedlabDoorZ
import Derived.Maps.OwnSet
import Derived.DeepKeys4
import Derived.Carry
import Derived.Deep.RegionHeld3
namespace Go.Proofs.YtjjkglfpcdedlabDoorZm
open Go Go.RowKit Go.Maps Go.Proofs.YtjjkglfpcdedlabDoorW.PrintWords Go.Proofs.YtjjkglfpcdedlabDoorW.PrintLast Go.Proofs.YtjjkglfpcdedlabDoorW.PrintMore
set_option linter.unusedVariables false
variable {P : Program} {K E : TypeId} {w w' : World} {B n : Nat} {ok : Value → Int → Prop}

/-- Block B is a map of at most n entries; what it holds at a key is right. -/
def Memo (P : Program) (K E : TypeId) (w : World) (B n : Nat) (ok : Value → Int → Prop) : Prop :=
  ∃ D : DataW Unit, w.ownsMap P K (plainElem P E) B n D ∧ ∀ key kl, keyOf P K key = some kl → Maps.has D kl = true → ∃ c, D.atKey kl (.lit (.int .i64 0)) = .lit (.int .i64 c) ∧ ok key c

theorem Memo.made (w : World) : Memo P K E (w.alloc (.map #[] 0)) w.heap.size 0 ok :=
  ⟨.map [], World.ownsMap_made _ _ _ _, fun key kl _ h => by simp [Maps.has_eq] at h⟩
theorem Memo.lt (h : Memo P K E w B n ok) : B < w.heap.size := by
  obtain ⟨D, h1, _⟩ := h
  exact h1.lt
theorem Memo.kept {row : Option Nat} (h : Memo P K E w B n ok) (hg : w.grownBy w' row) (hne : some B ≠ row) : Memo P K E w' B n ok := by
  obtain ⟨D, h1, h2⟩ := h
  exact ⟨D, h1.kept hg hne, h2⟩
theorem Memo.mono {n' : Nat} (h : Memo P K E w B n ok) (hn : n ≤ n') : Memo P K E w B n' ok := by
  obtain ⟨D, h1, h2⟩ := h
  exact ⟨D, h1.mono hn, h2⟩
theorem Memo.alloc (h : Memo P K E w B n ok) (o : Obj) : Memo P K E (w.alloc o) B n ok := by
  obtain ⟨D, h1, h2⟩ := h
  exact ⟨D, h1.alloc o, h2⟩
theorem Memo.drew (h : Memo P K E w B n ok) : Memo P K E w.drew B n ok := h
theorem Memo.drewN (h : Memo P K E w B n ok) (m : Nat) : Memo P K E (w.drewN m) B n ok := h
theorem Memo.setCell (h : Memo P K E w B n ok) {a : Addr} (ha : B ≠ a.block) (u : Value) : Memo P K E (w.setCell a u) B n ok := by
  obtain ⟨D, h1, h2⟩ := h
  exact ⟨D, h1.setCell ha u, h2⟩
theorem Memo.below (h : Memo P K E w B n ok) (hb : Below w.heap.size w w') : Memo P K E w' B n ok := by
  obtain ⟨D, ⟨es, clock, h3, r⟩, h2⟩ := h
  exact ⟨D, ⟨es, clock, (hb.block B (Array.getElem?_eq_some_iff.1 h3).1).trans h3, r⟩, h2⟩

theorem cell_alloc_new (w : World) (v : Value) (t : TypeId) {b : Nat} (h : b = w.heap.size) : (w.alloc (.cells #[v] t)).cell? ⟨b, 0, none⟩ = some v := by
  subst h
  exact (blk_cell (blk_new w (.cells #[v] t)) 0).trans rfl
theorem cell_alloc_old {a : Addr} {v : Value} (h : w.cell? a = some v) (o : Obj) : (w.alloc o).cell? a = some v :=
  ((below_alloc (Below.refl _ _) o : Below w.heap.size w (w.alloc o)).cell (World.block_lt_of_cell? w a h)).trans h
theorem grown_drewN {row : Option Nat} (h : w.grownBy w' row) (m : Nat) : w.grownBy (w'.drewN m) row := ⟨h.os, h.tape, h.output, h.size, h.block⟩
theorem grown_drew {row : Option Nat} (h : w.grownBy w' row) : w.grownBy w'.drew row := ⟨h.os, h.tape, h.output, h.size, h.block⟩
theorem grown_below {w2 : World} {row : Option Nat} (h : w.grownBy w' row) (hb : Below w'.heap.size w' w2) : w.grownBy w2 row :=
  ⟨hb.os.trans h.os, hb.tape.trans h.tape, hb.output.trans h.output, Nat.le_trans h.size hb.size, fun i hi hr => (hb.block i (Nat.lt_of_lt_of_le hi h.size)).trans (h.block i hi hr)⟩
theorem grown_alloc {row : Option Nat} (h : w.grownBy w' row) (o : Obj) : w.grownBy (w'.alloc o) row := h.trans (World.grownBy_alloc _ _ _)
theorem grown_set {row : Option Nat} (h : w.grownBy w' row) {a : Addr} (ha : w.heap.size ≤ a.block) (v : Value) : w.grownBy (w'.setCell a v) row :=
  ⟨h.os, h.tape, h.output, by simpa [World.setCell] using h.size, fun i hi hr => (Below.heap_setCell w' a v i (by omega)).trans (h.block i hi hr)⟩
/-- 'out, is := known[key]'. -/
theorem Memo.look {t : TypeId} {key : Value} {kl : Lit} (h : Memo P K E w B n ok) (law : Keyed P K) (ht : P.underlying t = some (.map K E)) (he : P.underlying E = some (.int .i64)) (hz : (zeroValue E).run P w = .ok (.int .i64 0) w) (hkey : keyOf P K key = some kl) :
    (∃ c, ok key c ∧ (Instr.lookup t (.map (some B)) key true).run P w = .ok (.tuple #[.int .i64 c, .bool true]) w) ∨ (Instr.lookup t (.map (some B)) key true).run P w = .ok (.tuple #[.int .i64 0, .bool false]) w := by
  obtain ⟨D, h1, h2⟩ := h
  obtain ⟨v, ps, hrun, hv⟩ := h1.look_ok law ht hz (plainElem_int he (by decide)) hkey
  obtain ⟨c, rfl, hc, _⟩ := plainElem_int_inv he hv
  have hc1 := congrArg Prod.fst hc
  cases hh : Maps.has D kl with
  | true =>
    obtain ⟨c', hc', hok⟩ := h2 key kl hkey hh
    have e1 : c = c' := by
      have := hc1.symm.trans hc'
      simpa using this
    subst e1
    rw [hh] at hrun
    exact .inl ⟨c, hok, hrun⟩
  | false =>
    have e1 : c = 0 := by
      have := hc1.symm.trans (Maps.atKey_of_not_has hh _)
      simpa using this
    subst e1
    rw [hh] at hrun
    exact .inr hrun
/-- 'known[key] = out'. -/
theorem Memo.put {t : TypeId} {key : Value} {kl : Lit} {c : Int} (h : Memo P K E w B n ok) (law : Keyed P K) (ht : P.underlying t = some (.map K E)) (he : P.underlying E = some (.int .i64)) (hn : n < maxLen) (hkey : keyOf P K key = some kl) (hc : (Lit.int .i64 c).wf = true) (hok : ok key c) :
    ∃ w', (Instr.mapUpdate t (.map (some B)) key (.int .i64 c)).run P w = .ok () w' ∧ Memo P K E w' B (n + 1) ok ∧ w.grownBy w' (some B) := by
  obtain ⟨D, h1, h2⟩ := h
  obtain ⟨w1, hrun, ho, hg⟩ := h1.update law ht hn hkey (plainElem_int he hc)
  refine ⟨w1, hrun, ⟨_, ho, fun key' kl' hk' hh => ?_⟩, hg⟩
  by_cases e : kl' = kl
  · subst e
    obtain rfl := law.inj hk' hkey
    exact ⟨c, Maps.atKey_put_same h1.isMap (law.key hkey) _ _, hok⟩
  · rw [Maps.has_put_other e] at hh
    rw [Maps.atKey_put_other e]
    exact h2 key' kl' hk' hh
/-- .. at the operation. -/
theorem wpList_memo_put {ops : Array Oper} {rest : List Oper} {o : Oper} {a : Act} {Q : Exit → Act → World → Prop} (hg : o.guard = none) (m x v : Operand) (t : TypeId) (hop : o.op = Op.mapUpdate t m x v)
    (law : Keyed P K) (ht : P.underlying t = some (.map K E)) (he : P.underlying E = some (.int .i64)) (hm : a.eval m = .map (some B)) (hown : Memo P K E w B n ok) (hn : n < maxLen) (key : Value) (kl : Lit) (c : Int) (hx : a.eval x = key) (hv : a.eval v = .int .i64 c) (hkey : keyOf P K key = some kl)
    (hc : (Lit.int .i64 c).wf = true) (hok : ok key c)
    (hK : ∀ w', Memo P K E w' B (n + 1) ok → w.grownBy w' (some B) → wpList P ops Q rest (a.put o.dst undef) w') : wpList P ops Q (o :: rest) a w := by
  refine wpList_plain hg fun K' hK' => ?_
  obtain ⟨w', hrun, r1, r2⟩ := hown.put law ht he hn hkey hc hok
  unfold Oper.wp
  simp [execOp, hop, hm, hx, hv, hrun, Result.andThen]
  exact hK' _ _ (hK w' r1 r2)

/-- An array of two whole numbers reads as a key. -/
theorem zKey2 {e : TypeId} {s : Nat} (hk : P.underlying K = some (.array 2 e)) (he : P.underlying e = some (.int .i64)) (hkt : P.keyType K = true) (hcK : P.cellsOf K = 2) (hce : P.cellsOf e = 1) (hs : P.types.size = s + 1) {u d : Int}
    (hu : (Lit.int .i64 u).wf = true) (hd : (Lit.int .i64 d).wf = true) : ∃ kl, keyOf P K (.agg #[.int .i64 u, .int .i64 d]) = some kl := by
  refine ⟨.string (keyBytes [.int .i64 u, .int .i64 d]), ?_⟩
  simp [keyOf, hk, hkt, Value.formed, hcK, hs, Program.keyLits, he, hce, Value.cells, hu, hd, List.range_succ]
/-- An array of four whole numbers reads as a key. -/
theorem zKey4 {e : TypeId} {s : Nat} (hk : P.underlying K = some (.array 4 e)) (he : P.underlying e = some (.int .i64)) (hkt : P.keyType K = true) (hcK : P.cellsOf K = 4) (hce : P.cellsOf e = 1) (hs : P.types.size = s + 1) {x0 x1 x2 x3 : Int}
    (h0 : (Lit.int .i64 x0).wf = true) (h1 : (Lit.int .i64 x1).wf = true) (h2 : (Lit.int .i64 x2).wf = true) (h3 : (Lit.int .i64 x3).wf = true) : ∃ kl, keyOf P K (.agg #[.int .i64 x0, .int .i64 x1, .int .i64 x2, .int .i64 x3]) = some kl := by
  refine ⟨.string (keyBytes [.int .i64 x0, .int .i64 x1, .int .i64 x2, .int .i64 x3]), ?_⟩
  simp [keyOf, hk, hkt, Value.formed, hcK, hs, Program.keyLits, he, hce, Value.cells, h0, h1, h2, h3, List.range_succ]
end Go.Proofs.YtjjkglfpcdedlabDoorZm
