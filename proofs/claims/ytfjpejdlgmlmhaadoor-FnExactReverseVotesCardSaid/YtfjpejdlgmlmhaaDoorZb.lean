/- Words of our own: a row of bytes that a conversion of a string made (it bears a mark behind its cells), as Kd.R tells rows; and the conversion itself. Plain lemmas over any program. -/
import Derived.Test.YtfjpejdlgmlmhaaDoorZ
import Derived.Lib.ConvBytes
namespace Go.Proofs.YtfjpejdlgmlmhaaDoorZb
open Go.RowKit Go.Proofs.YtfjpejdlgmlmhaaDoorW.PrintWords Go.Proofs.YtfjpejdlgmlmhaaDoorW.PrintLast Go.Proofs.YtfjpejdlgmlmhaaDoorW.PrintMore
set_option linter.unusedVariables false
/-- A row of bytes of the call's own, out of a string. -/
def RB (e : Nat) (w : World) (base : Nat) (ok : Nat → Prop) (v : Value) (xs : List Int) : Prop :=
  ∃ (g cap m : Nat) (ex : List Value), v = .slice (some ⟨g, 0, none⟩) xs.length cap ∧ base ≤ g ∧ ok g ∧ w.heap[g]? = some (.cells (xs.map (Value.int .u8) ++ ex).toArray e (m, m + 1)) ∧ xs.length ≤ cap ∧ xs.length ≤ 9223372036854775807 ∧ xs.length ≤ m
section
variable {P : Program} {ops : Array Oper} {Q : Exit → Act → World → Prop} {o : Oper} {rest : List Oper} {a : Act}
variable {e base : Nat} {ok ok' : Nat → Prop} {w w1 W : World} {v : Value} {xs : List Int} {g n cap : Nat}
theorem RB_mono (h : RB e w base ok v xs) (hok : ∀ k, ok k → ok' k) : RB e w base ok' v xs := by
  obtain ⟨g, cap, m, ex, h1, h2, h3, h4⟩ := h
  exact ⟨g, cap, m, ex, h1, h2, hok g h3, h4⟩
theorem RB_below (h : RB e w base ok v xs) (hb : Below w.heap.size w w1) : RB e w1 base ok v xs := by
  obtain ⟨g, cap, m, ex, h1, h2, h3, h4, h5⟩ := h
  exact ⟨g, cap, m, ex, h1, h2, h3, (hb.block g (blk_lt h4)).trans h4, h5⟩
theorem RB_alloc (h : RB e w base ok v xs) (o : Obj) : RB e (w.alloc o) base ok v xs := RB_below h (below_alloc (Below.refl _ _) o)
theorem RB_drew (h : RB e w base ok v xs) : RB e w.drew base ok v xs := RB_below h (below_drew (Below.refl _ _))
theorem RB_drewN (h : RB e w base ok v xs) (m : Nat) : RB e (w.drewN m) base ok v xs := RB_below h (pw_below_drewN (Below.refl _ _) m)
theorem RB_slice (h : RB e w base ok v xs) : ∃ A c, v = .slice A xs.length c := by
  obtain ⟨g, cap, m, ex, h1, _⟩ := h
  exact ⟨_, _, h1⟩
theorem RB_ok (h : RB e w base ok (.slice (some ⟨g, 0, none⟩) n cap) xs) : ok g := by
  obtain ⟨g', cap', m, ex, h1, _, h3, _⟩ := h
  injection h1 with h1 _ _
  injection h1 with h1
  injection h1 with h1 _ _
  subst h1
  exact h3
theorem RB_cell {ex : List Value} {m : Nat} (h : w.heap[g]? = some (.cells (xs.map (Value.int .u8) ++ ex).toArray e (m, m + 1))) (j : Nat) (hj : j < xs.length) (hm : xs.length ≤ m) : w.cell? ⟨g, j, none⟩ = some (.int .u8 (xs.getD j 0)) ∧ w.frozen? ⟨g, j, none⟩ = false := by
  refine ⟨?_, ?_⟩
  · rw [cell_of_row w g j _ _ _ h]
    simp [List.getElem?_append, hj]
  · simp [World.frozen?, h]; omega
theorem RB_reads' {A : Option Addr} {c : Nat} (h : RB e w base ok (.slice A n c) xs) : n = xs.length ∧ n ≤ c ∧ (Kd.int .u8).C w A xs.length xs := by
  obtain ⟨g, cap, m, ex, h1, h2, h3, h4, h5, h6, h7⟩ := h
  injection h1 with e1 e2 e3
  subst e1; subst e2; subst e3
  refine ⟨rfl, h5, rfl, h6, fun _ => ⟨_, rfl, fun j p hj => ⟨[Value.int .u8 p], rfl, rfl, fun i u hu => ?_⟩⟩⟩
  cases i with
  | zero =>
    simp only [List.getElem?_cons_zero, Option.some.injEq] at hu
    subst hu
    have e1 : (⟨g, 0, none⟩ : Addr).add (j * 1 + 0) = ⟨g, j, none⟩ := by
      unfold Addr.add; simp; first | done | (intro h; omega)
    have hl : j < xs.length := by
      rcases Nat.lt_or_ge j xs.length with h | h
      · exact h
      · rw [List.getElem?_eq_none h] at hj; cases hj
    show w.cell? ((⟨g, 0, none⟩ : Addr).add (j * 1 + 0)) = _
    rw [e1, (RB_cell h4 j hl h7).1, List.getD_eq_getElem?_getD, hj]; rfl
  | succ i => simp at hu
theorem RB_form (h : RB e w base ok v xs) (hp : 0 < xs.length) : ∃ g cap, v = .slice (some ⟨g, 0, none⟩) xs.length cap ∧ base ≤ g ∧ g < w.heap.size ∧ ∃ cells : Array Value, True := by
  obtain ⟨g, cap, m, ex, h1, h2, h3, h4, h5⟩ := h
  exact ⟨g, cap, h1, h2, blk_lt h4, #[], trivial⟩
theorem RB_celln (d : Int) (h : RB e w base ok (.slice (some ⟨g, 0, none⟩) n cap) xs) (i : Int) (h0 : 0 ≤ i) (hi : i < (n : Int)) : w.cell? ⟨g, i.toNat, none⟩ = some (.int .u8 (rd xs i)) ∧ w.frozen? ⟨g, i.toNat, none⟩ = false := by
  obtain ⟨g', cap', m, ex, h1, h2, h3, h4, h5, h6, h7⟩ := h
  injection h1 with e1 e2 e3
  injection e1 with e1
  injection e1 with e1 _ _
  subst e1; subst e2
  exact RB_cell h4 i.toNat (by omega) h7
theorem RB_putn (h : RB e w base ok (.slice (some ⟨g, 0, none⟩) n cap) xs) (i x : Int) : RB e (w.setCell ⟨g, i.toNat, none⟩ (.int .u8 x)) base ok (.slice (some ⟨g, 0, none⟩) n cap) (xs.set i.toNat x) := by
  obtain ⟨g', cap', m, ex, h1, h2, h3, h4, h5, h6, h7⟩ := h
  injection h1 with e1 e2 e3
  injection e1 with e1
  injection e1 with e1 _ _
  subst e1; subst e2; subst e3
  have hset : (w.setCell ⟨g, i.toNat, none⟩ (.int .u8 x)).heap[g]? = some (.cells ((xs.map (Value.int .u8) ++ ex).set i.toNat (.int .u8 x)).toArray e (m, m + 1)) := by
    simp [World.setCell, Array.getElem?_modify, h4]
  by_cases hl : i.toNat < xs.length
  · refine ⟨g, cap, m, ex, by rw [List.length_set], h2, h3, ?_, by rw [List.length_set]; exact h5, by rw [List.length_set]; exact h6, by rw [List.length_set]; exact h7⟩
    rw [hset, List.set_append_left _ _ (by rw [List.length_map]; exact hl), List.map_set]
  · have e9 : xs.set i.toNat x = xs := List.set_eq_of_length_le (by omega)
    rw [e9]
    refine ⟨g, cap, m, ex.set (i.toNat - xs.length) (.int .u8 x), rfl, h2, h3, ?_, h5, h6, h7⟩
    rw [hset, List.set_append_right _ _ (by rw [List.length_map]; omega), List.length_map]
/-- '[]byte(s)'. -/
theorem zBytes {src dst : TypeId} {x : Operand} {s : ByteArray} {u : TypeDesc} (hgd : o.guard = none) (ho : o.op = .convert src dst x) (hs : P.underlying src = some u) (hd : P.underlying dst = some (.slice e)) (he : P.underlying e = some (.int .u8)) (hx : a.eval x = .string s) (hn : s.size ≤ 9223372036854775807)
    (h : ∀ v1 w1, RB e w1 W.heap.size (fun k => W.heap.size ≤ k) v1 (bytesOf s) → Below W.heap.size W w1 → wpList P ops Q rest (a.put o.dst v1) w1) : wpList P ops Q (o :: rest) a W := by
  refine Kd.event_run hgd (v := .slice (some ⟨W.heap.size, 0, none⟩) s.size (grownCap W s.size 0 e)) (w1 := Lib.bytesWorld W e s) ?_ (h _ _ ?_ (bytes_below (Below.refl _ _) (Nat.le_refl _) e s))
  · unfold execOp
    rw [ho]
    simp only [hx]
    rw [Sem.run_bind, Lib.run_convert_string_bytes W src dst e s hs hd he]
    rfl
  · have hl : (bytesOf s).length = s.size := bytesOf_length s
    refine ⟨W.heap.size, grownCap W s.size 0 e, (Lib.bytesCells W e s).size, List.replicate (grownCap W s.size 0 e - s.size) (.int .u8 0), by rw [hl], Nat.le_refl _, Nat.le_refl _, ?_, by rw [hl]; exact grownCap_ge W s.size 0 e, by rw [hl]; exact hn, ?_⟩
    · rw [Lib.bytesWorld_at_new]
      congr 2
      unfold Lib.bytesCells bytesOf
      apply Array.ext'
      simp
    · rw [hl]; unfold Lib.bytesCells; rw [Array.size_append, Array.size_map]; exact Nat.le_add_right _ _
end
end Go.Proofs.YtfjpejdlgmlmhaaDoorZb
