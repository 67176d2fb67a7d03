/- Words of our own for walks: a call through a function value (a closure with its captured pointers). Plain lemmas over any program. -/
import Derived.Test.YtfmoaonnknpobaaDoorWWords
import Derived.Test.YtfmoaonnknpobaaDoorWLast
import Derived.Test.YtfmoaonnknpobaaDoorWMore
import Derived.Test.YtfmoaonnknpobaaDoorWApart
import Derived.Test.YtfmoaonnknpobaaDoorWKept
import Derived.Shelf.Abstract
namespace Go.Proofs.YtfmoaonnknpobaaDoorZ
open Go.RowKit Go.Proofs.YtfmoaonnknpobaaDoorW.PrintWords Go.Proofs.YtfmoaonnknpobaaDoorW.PrintLast Go.Proofs.YtfmoaonnknpobaaDoorW.PrintMore
set_option linter.unusedVariables false
variable {P : Program} {ops : Array Oper} {Q : Exit → Act → World → Prop}

/-- The function of this number has a body: a call of it enters it. -/
theorem ent_of {g : FuncId} {fn : Func} (hf : P.funcs[g]? = some fn) (hname : (fn.name == "runtime.NumGoroutine") = false) (hb : fn.body.isSome = true) : Enters P g :=
  fun args w => enters_ hf hname hb args w

/-- What a function value of one whole number tells, in every world in which all that lay in w lies. -/
def Ora1 (P : Program) (g : FuncId) (lb : Array Value) (w : World) (of : Int → Option Int) : Prop :=
  ∀ (x t : Int) (W : World), Below w.heap.size w W → of x = some t → Calls P g (#[.int .i64 x] ++ lb) W fun e w' => e = .returned (.int .i64 t) ∧ Below W.heap.size W w'

/-- A function (without captured values) of one whole number that answers yes or no and writes nothing. -/
structure FnB (P : Program) where
  g : FuncId
  f : Int → Bool
  he : Enters P g
  hof : ∀ (x : Int) (W : World), Calls P g (#[.int .i64 x] ++ #[]) W fun e w' => e = .returned (.bool (f x)) ∧ Drawn0 W w'
/-- What a function value of one whole number tells that writes nothing. -/
def OraB (P : Program) (g : FuncId) (lb : Array Value) (of : Int → Bool) : Prop :=
  ∀ (x : Int) (W : World), Calls P g (#[.int .i64 x] ++ lb) W fun e w' => e = .returned (.bool (of x)) ∧ Drawn0 W w'

section
variable {o : Oper} {rest : List Oper} {a : Act}
theorem size_of_info {e : TypeId} (hI : (P.info? e).map (·.size) = some 1) (W : World) : (sizeOf e).run P W = .ok 1 W := by
  cases hi : P.info? e with
  | none => rw [hi] at hI; cases hI
  | some i =>
    rw [run_sizeOf W hi]
    show Result.ok (((P.info? e).map (·.size)).getD 0) W = _
    rw [hI]; rfl
/-- An index into an array behind a pointer, whose number is known. -/
theorem zIndexAt {W : World} (hgd : o.guard = none) {t e : TypeId} {p x : Operand} {n i : Nat} {k : IntKind} {j : Int} {g : Nat} (ho : o.op = .indexAddr t p x) (ht : P.underlying t = some (.array n e)) (hI : (P.info? e).map (·.size) = some 1)
    (hp : a.eval p = .pointer (some ⟨g, 0, none⟩)) (hx : a.eval x = .int k j) (hj : j = (i : Int)) (hi : i < n) (h : wpList P ops Q rest (a.put o.dst (.pointer (some ⟨g, i, none⟩))) W) : wpList P ops Q (o :: rest) a W := by
  refine Kd.event_run hgd ?_ h
  unfold execOp
  rw [ho]
  simp only [hp, hx]
  have h0 : (0 : Int) ≤ j ∧ j < (n : Int) := by omega
  have e1 : j.toNat = i := by omega
  simp [Instr.indexAt, asIntOf, run_underlying ht, h0, e1, go_sem, Result.andThen, size_of_info hI, Addr.add]
  try (intro h; exact h.symm)
/-- An index into an array's value, whose number is known. -/
theorem zIndexVal {W : World} (hgd : o.guard = none) {t e : TypeId} {p x : Operand} {n i : Nat} {k : IntKind} {j : Int} {cs : Array Value} {v : Value} (ho : o.op = .index t p x) (ht : P.underlying t = some (.array n e)) (hI : (P.info? e).map (·.size) = some 1)
    (hp : a.eval p = .agg cs) (hx : a.eval x = .int k j) (hj : j = (i : Int)) (hi : i < n) {ke : IntKind} (he : P.underlying e = some (.int ke)) (hv : cs[i]? = some v) (h : wpList P ops Q rest (a.put o.dst v) W) : wpList P ops Q (o :: rest) a W := by
  refine Kd.event_run hgd ?_ h
  unfold execOp
  rw [ho]
  simp only [hp, hx]
  have h0 : (0 : Int) ≤ j ∧ j < (n : Int) := by omega
  have e1 : j.toNat = i := by omega
  simp [Instr.index, asIntOf, run_underlying ht, h0, e1, go_sem, Result.andThen, size_of_info hI, part, isAgg, run_underlying he, hv]
/-- The whole of an array behind a pointer, as a slice. -/
theorem zSliceArr {W : World} (hgd : o.guard = none) {t e : TypeId} {p : Operand} {n : Nat} {g : Nat} (ho : o.op = .slice t p none none none) (ht : P.underlying t = some (.array n e)) (hI : (P.info? e).map (·.size) = some 1)
    (hp : a.eval p = .pointer (some ⟨g, 0, none⟩)) (h : wpList P ops Q rest (a.put o.dst (.slice (some ⟨g, 0, none⟩) n n)) W) : wpList P ops Q (o :: rest) a W := by
  refine Kd.event_run hgd ?_ h
  unfold execOp
  rw [ho]
  simp only [hp, Option.map_none]
  simp [Instr.sliceAt, Instr.sureAddr, Instr.sliceBounds, run_underlying ht, go_sem, Result.andThen, size_of_info hI, Addr.add]
  done
/-- A slice read as an array: the pointer. -/
theorem zArrPtr {W : World} (hgd : o.guard = none) {t e : TypeId} {x : Operand} {n len cap : Nat} {A : Option Addr} (ho : o.op = .sliceToArrayPointer t x) (ht : P.underlying t = some (.array n e))
    (hx : a.eval x = .slice A len cap) (hl : n ≤ len) (h : wpList P ops Q rest (a.put o.dst (.pointer A)) W) : wpList P ops Q (o :: rest) a W := by
  refine Kd.event_run hgd ?_ h
  unfold execOp
  rw [ho]
  have e1 : ¬ len < n := by omega
  simp only [hx]
  simp [Instr.arrayAt, run_underlying ht, go_sem, Result.andThen, e1]
/-- A slice's first cells, read as an array. -/
theorem zLoadRow {W : World} {n : Nat} {l : List Int} (cs : List Value) (hcs : cs = (List.range n).map fun i : Nat => Value.int .i64 (rd l (i : Int))) (hgd : o.guard = none) {t e : TypeId} {p : Operand} {A : Option Addr} {len : Nat} (ho : o.op = .load t p) (ht : P.underlying t = some (.array n e)) (hI : (P.info? t).map (·.size) = some n)
    (hp : a.eval p = .pointer A) (hC : (Kd.int .i64).C W A len l) (hl : n ≤ len) (h0 : 0 < n) (h : wpList P ops Q rest (a.put o.dst (.agg cs.toArray)) W) : wpList P ops Q (o :: rest) a W := by
  obtain ⟨ad, rfl, hx0⟩ := Kd.at_int hC 0 (by omega) (by omega)
  obtain ⟨b, off, spot⟩ := ad
  have hsp : spot = none := by
    cases spot with
    | none => rfl
    | some s =>
      have e0 : (⟨b, off, some s⟩ : Addr).add (0 : Int).toNat = ⟨b, off, some s⟩ := rfl
      rw [e0] at hx0
      unfold World.cell? at hx0
      split at hx0 <;> simp at hx0
  subst hsp
  have hlen : cs.length = n := by rw [hcs]; simp
  refine wpList_load_mid hgd t p ho b off hp cs (.array n e) ?_ ht rfl (by rw [hlen]; exact hI) h
  intro j v hv
  rw [hcs] at hv
  have hj : j < n := by
    rcases Nat.lt_or_ge j n with h1 | h1
    · exact h1
    · rw [List.getElem?_eq_none (by simpa using h1)] at hv; cases hv
  obtain ⟨ad', e', hx⟩ := Kd.at_int hC (j : Int) (by omega) (by omega)
  obtain rfl := Option.some.inj e'
  simp [hj] at hv
  subst hv
  have e2 : (⟨b, off, none⟩ : Addr).add (j : Int).toNat = ⟨b, off + j, none⟩ := by
    unfold Addr.add
    cases j with
    | zero => simp
    | succ j => simp
  rw [e2] at hx
  exact hx
/-- An array's cells, read as a row. -/
theorem zC_box {w : World} {g t : Nat} {k : IntKind} (l : List Int) (hn : l.length ≤ 9223372036854775807) (h : w.heap[g]? = some (.cells (l.map (Value.int k)).toArray t (0, 0))) : (Kd.int k).C w (some ⟨g, 0, none⟩) l.length l := by
  refine ⟨rfl, hn, fun _ => ⟨_, rfl, fun j p hj => ⟨[Value.int k p], rfl, rfl, fun i u hu => ?_⟩⟩⟩
  cases i with
  | zero =>
    simp only [List.getElem?_cons_zero, Option.some.injEq] at hu
    subst hu
    have e1 : (⟨g, 0, none⟩ : Addr).add (j * 1 + 0) = ⟨g, j, none⟩ := by
      unfold Addr.add; simp; first | done | (intro h; omega)
    show w.cell? ((⟨g, 0, none⟩ : Addr).add (j * 1 + 0)) = _
    rw [e1, blk_cell h]
    simp [hj]
  | succ i => simp at hu
/-- .. as an equation of the run. -/
theorem zIndexRun {W : World} {t e : TypeId} {n i : Nat} {k : IntKind} {j : Int} {cs : Array Value} {v : Value} (ht : P.underlying t = some (.array n e)) (hI : (P.info? e).map (·.size) = some 1)
    (hj : j = (i : Int)) (hi : i < n) (hv : cs[i]? = some v) {ke : IntKind} (he : P.underlying e = some (.int ke)) : (Instr.index t (.agg cs) (.int k j)).run P W = .ok v W := by
  have h0 : (0 : Int) ≤ j ∧ j < (n : Int) := by omega
  have e1 : j.toNat = i := by omega
  simp [Instr.index, asIntOf, run_underlying ht, h0, e1, go_sem, Result.andThen, size_of_info hI, part, isAgg, run_underlying he, hv]
/-- An index into an array's value, by a row's read. -/
theorem zIndexRow {W : World} {l : List Int} (hgd : o.guard = none) {t e : TypeId} {p x : Operand} {n : Nat} {k : IntKind} {j : Int} {cs : Array Value} (ho : o.op = .index t p x) (ht : P.underlying t = some (.array n e)) (hI : (P.info? e).map (·.size) = some 1)
    (hp : a.eval p = .agg cs) (hcs : cs = (l.map (Value.int .i64)).toArray) (hl : l.length = n) (hx : a.eval x = .int k j) (h0 : 0 ≤ j) (h1 : j < (n : Int)) {ke : IntKind} (he : P.underlying e = some (.int ke)) (h : wpList P ops Q rest (a.put o.dst (.int .i64 (rd l j))) W) : wpList P ops Q (o :: rest) a W := by
  refine zIndexVal (i := j.toNat) (v := .int .i64 (rd l j)) hgd ho ht hI hp hx (by omega) (by omega) he ?_ h
  subst hcs
  have hj : j.toNat < l.length := by omega
  simp [rd, hj]
/-- What a cut of an array's rest leads to. -/
def zAd (g n l : Nat) : Option Addr := some (if n = l then ⟨g, 0, none⟩ else (⟨g, 0, none⟩ : Addr).add l)
/-- The rest of an array behind a pointer, as a slice. -/
theorem zSliceRest {W : World} {l : List Int} (hgd : o.guard = none) {t e : TypeId} {p x : Operand} {n g : Nat} {k : IntKind} {j ji : Int} (ho : o.op = .slice t p (some x) none none) (ht : P.underlying t = some (.array n e)) (hI : (P.info? e).map (·.size) = some 1)
    (hp : a.eval p = .pointer (some ⟨g, 0, none⟩)) (hx : a.eval x = .int k j) (hj : j = ji) (h0 : 0 ≤ ji) (h1 : ji ≤ (n : Int)) (hl : l.length = n) (h : wpList P ops Q rest (a.put o.dst (.slice (zAd g n ji.toNat) (l.drop ji.toNat).length (n - ji.toNat))) W) : wpList P ops Q (o :: rest) a W := by
  refine Kd.event_run hgd ?_ h
  subst hj
  unfold execOp
  rw [ho]
  simp only [hp, hx, Option.map_none, Option.map_some]
  have e0 : (l.drop j.toNat).length = n - j.toNat := by rw [List.length_drop, hl]
  rw [e0]
  simp [Instr.sliceAt, Instr.sureAddr, Instr.sliceBounds, run_underlying ht, go_sem, Result.andThen, size_of_info hI, zAd, h0, h1]
/-- An array's rest, read as a row. -/
theorem zC_rest {w : World} {g t : Nat} {k : IntKind} (l : List Int) (n : Nat) (hl : l.length = n) (hn : n ≤ 9223372036854775807) (j : Nat) (hj : j ≤ n) (h : w.heap[g]? = some (.cells (l.map (Value.int k)).toArray t (0, 0))) : (Kd.int k).C w (zAd g n j) (l.drop j).length (l.drop j) := by
  refine ⟨rfl, by rw [List.length_drop]; omega, fun _ => ⟨_, rfl, fun i p hi => ⟨[Value.int k p], rfl, rfl, fun q u hu => ?_⟩⟩⟩
  cases q with
  | zero =>
    simp only [List.getElem?_cons_zero, Option.some.injEq] at hu
    subst hu
    have hlt : i < (l.drop j).length := by
      rcases Nat.lt_or_ge i (l.drop j).length with h1 | h1
      · exact h1
      · rw [List.getElem?_eq_none h1] at hi; cases hi
    rw [List.length_drop] at hlt
    have hne : ¬ n = j := by omega
    rw [List.getElem?_drop] at hi
    have e1 : ((if n = j then (⟨g, 0, none⟩ : Addr) else (⟨g, 0, none⟩ : Addr).add j)).add (i * 1 + 0) = ⟨g, j + i, none⟩ := by
      rw [if_neg hne]
      unfold Addr.add
      by_cases z1 : j = 0
      · subst z1
        by_cases z2 : i = 0
        · subst z2; simp
        · simp [z2]
      · by_cases z2 : i = 0
        · subst z2; simp [z1]
        · simp [z1, z2]
    show w.cell? (((if n = j then (⟨g, 0, none⟩ : Addr) else (⟨g, 0, none⟩ : Addr).add j)).add (i * 1 + 0)) = _
    rw [e1, blk_cell h]
    simp [hi]
  | succ q => simp at hu
end

/-- A row of rows of one's own: a row is lent out, written, and laid back. -/
theorem zS_lend {W : World} {base g n cap e1 e2 : Nat} {okP : Nat → Prop} {xs : List (List Int)} (h : Kd.S (Kd.slice e1 (Kd.int .i64)) e2 W base okP (.slice (some ⟨g, 0, none⟩) n cap) xs) (i : Int) (h0 : 0 ≤ i) (h1 : i < n) :
    ∃ (oki : Nat → Prop) (A : Option Addr) (c : Nat), W.cell? ⟨g, i.toNat, none⟩ = some (.slice A (xs.getD i.toNat []).length c) ∧ Kd.R (Kd.int .i64) e1 W base oki (.slice A (xs.getD i.toNat []).length c) (xs.getD i.toNat []) ∧ (∀ k, oki k → okP k) ∧
      ∀ (W' : World) (ys : List Int) (okp : Nat → Prop), Kept W W' oki → Kd.R (Kd.int .i64) e1 W' base okp (.slice A (xs.getD i.toNat []).length c) ys → Kd.S (Kd.slice e1 (Kd.int .i64)) e2 W' base okP (.slice (some ⟨g, 0, none⟩) n cap) (xs.set i.toNat ys) := by
  obtain ⟨oki, cs, hcl, hM, hcc, hfr, hoki, hH⟩ := Kd.S_elem h [] i h0 h1
  obtain ⟨v, rfl, hR⟩ := hM
  obtain ⟨A, c, rfl⟩ := Kd.R_slice hR
  refine ⟨oki, A, c, ?_, hR, fun k hk => (hoki k hk).1, fun W' ys okp hK hR' => ?_⟩
  · have := hcc 0 _ rfl
    simpa [Kd.slice] using this
  · refine Kd.H_back (Kd.H_step hH fun k hk hn hlt => hK.2 k hlt hn) (Kd.M_row (Kd.R_tight rfl hR')) (fun k hk => hR.1 k hk.symm)
/-- An array's cells, as a row of the call's own (its block is of the array's type). -/
theorem zR_box {w : World} {base g t : Nat} {k : IntKind} (cs : List Int) (hb : base ≤ g) (h : w.heap[g]? = some (.cells (cs.map (Value.int k)).toArray t (0, 0))) (hn : cs.length ≤ 8 := by simp) : Kd.R (Kd.int k) t w base (fun _ => True) (.slice (some ⟨g, 0, none⟩) cs.length cs.length) cs := by
  refine Kd.R_of_own (enc := Value.int k) ⟨by simp [encs], .inr ⟨g, cs.length, _, rfl, hb, h, Nat.le_refl _, by unfold maxLen; omega, by simp, by simp [encs, List.take_of_length_le]⟩⟩ (fun _ _ => trivial)
end Go.Proofs.YtfmoaonnknpobaaDoorZ
