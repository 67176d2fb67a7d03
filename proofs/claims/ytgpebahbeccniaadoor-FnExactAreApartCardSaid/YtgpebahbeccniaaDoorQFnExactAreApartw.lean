/- Written by a program of this repo: the law over a list of ways: the one pure statement, the walk, and what the argument reads as. Lean checks all of it. -/
import Derived.Test.YtgpebahbeccniaaDoorQFnExactAreApartx7
import Derived.Deep.Slices
import Derived.ChangeArms
import Derived.DataReads
namespace Go.Proofs.YtgpebahbeccniaaDoor.QFnExactAreApart
open Go.RowKit Go.Proofs.YtgpebahbeccniaaDoorZ Go.Proofs.YtgpebahbeccniaaDoorW.PrintWords Go.Proofs.YtgpebahbeccniaaDoorW.PrintLast Go.Proofs.YtgpebahbeccniaaDoorW.PrintMore
set_option linter.unusedVariables false
/-- THE ONE PURE STATEMENT of laws_FnExactAreApart: yours. -/
def laws_FnExactAreApart.Pure : Prop := ∀ l0 : List S49, l0.length ≤ 9223372036854775807 → (∀ x ∈ l0, x.f1.size ≤ 9223372036854775807) → ∃ k, laws_FnExactAreApart.f k l0 = some true
theorem laws_FnExactAreApart.walk (P : laws_FnExactAreApart.Pure) (a0 : Option Addr) (c0 : Nat) (l0 : List S49) (w : World) (hr0 : Kd.C k49 w a0 l0.length l0) (hc0 : l0.length ≤ c0) (y0 : l0.length ≤ 9223372036854775807) (z0 : ∀ x ∈ l0, x.f1.size ≤ 9223372036854775807) :
    Calls Tryd.prog 4 #[.slice a0 l0.length c0] w fun e w' => e = .returned (.bool true) ∧ Below w.heap.size w w' := by
  obtain ⟨k, h⟩ := P l0 y0 z0
  exact laws_FnExactAreApart.calls k _ _ l0 true w hr0 hc0 h
/-- A slice of ways that came in: what it reads as. -/
theorem zOpenWays {H : Type} {P : Program} {enc : TypeId × Value → H} {W : World} {t e : TypeId} {f0 f1 g0 g1 : Field} {a0 : Option Addr} {len cap : Nat} {d : DataW H} {p : List MemPlace} (ht : P.underlying t = some (.slice e)) (he : P.underlying e = some (.struct #[f0, f1])) (hc : P.underlying f0.type = some (.struct #[g0, g1])) (hs : P.underlying f1.type = some .string)
    (h0 : P.underlying g0.type = some (.int .i64)) (h1 : P.underlying g1.type = some (.int .i64)) (ce : P.cellsOf e = 3) (cc : P.cellsOf f0.type = 2) (cs1 : P.cellsOf f1.type = 1) (c0 : P.cellsOf g0.type = 1) (c1 : P.cellsOf g1.type = 1)
    (o0 : f0.offset = 0) (o1 : f1.offset = 2) (p0 : g0.offset = 0) (p1 : g1.offset = 1) (h : DataW.Trod enc P W 0 (fun _ => true) true t (.slice a0 len cap) d p) :
    ∃ l0 : List S49, l0.length = len ∧ Kd.C k49 W a0 l0.length l0 ∧ l0.length ≤ cap ∧ l0.length ≤ 9223372036854775807 ∧ ∀ x ∈ l0, x.f1.size ≤ 9223372036854775807 := by
  obtain ⟨fuel, hf⟩ := h
  rcases Go.Deep.open_slice ht hf with ⟨hcs, _⟩ | ⟨a, len', cap', mm, n, Dd, Pl, hcs, _, hl, hm, hmm, _, hx⟩
  · simp [Value.cells] at hcs
    obtain ⟨rfl, rfl, rfl⟩ := hcs
    exact ⟨[], rfl, Kd.C_nil _ _, Nat.le_refl _, by simp, by simp⟩
  · simp [Value.cells] at hcs
    obtain ⟨rfl, rfl, rfl⟩ := hcs
    simp only [if_true] at hmm
    subst hmm
    have each : ∀ i, i < len → ∃ q : Int × Int × ByteArray, W.cell? (a.add (i * 3)) = some (.int .i64 q.1) ∧ W.cell? (a.add (i * 3 + 1)) = some (.int .i64 q.2.1) ∧ W.cell? (a.add (i * 3 + 2)) = some (.string q.2.2) ∧ q.2.2.size ≤ maxLen := by
      intro i hi
      obtain ⟨cs', g1_, g2_⟩ := hx i (by omega)
      rw [ce] at g1_
      obtain ⟨_, hlen, hcell⟩ := World.cells?_some g1_
      obtain ⟨xs, k, hk, _, _, hxl, hfd⟩ := DataW.trod_struct he g2_
      match cs', hlen, xs, hxl with
      | [v0, v1, v2], _, [y0, y1], _ =>
        have q0 := hfd 0 f0 rfl
        have q1 := hfd 1 f1 rfl
        simp [o0, o1, cc, cs1] at q0 q1
        obtain ⟨zs, k2, hk2, _, _, hzl, hgd⟩ := DataW.trod_struct hc q0
        match zs, hzl with
        | [z0, z1], _ =>
          have r0 := hgd 0 g0 rfl
          have r1 := hgd 1 g1 rfl
          simp [p0, p1, c0, c1] at r0 r1
          obtain ⟨x, e0, _, _⟩ := DataW.trod_int h0 r0
          obtain ⟨y, e1, _, _⟩ := DataW.trod_int h1 r1
          obtain ⟨s, e2, _, hsz⟩ := DataW.trod_string hs q1
          obtain rfl : v0 = .int .i64 x := by simpa using e0
          obtain rfl : v1 = .int .i64 y := by simpa using e1
          obtain rfl : v2 = .string s := by simpa using e2
          have u0 := hcell 0 (by omega)
          have u1 := hcell 1 (by omega)
          have u2 := hcell 2 (by omega)
          rw [add_add] at u0 u1 u2
          exact ⟨(x, y, s), by simpa using u0, by simpa using u1, by simpa using u2, hsz⟩
    obtain ⟨q, hq⟩ := Go.Deep.choose_lt each
    refine ⟨(List.range len).map fun i => (⟨⟨(q i).1, (q i).2.1⟩, (q i).2.2⟩ : S49), by simp, ?_, by simpa using hl, by simp [maxLen] at hm ⊢; omega, ?_⟩
    · refine ⟨rfl, ?_, fun _ => ⟨a, rfl, fun j ps hj => ?_⟩⟩
      · simp [maxLen] at hm ⊢; omega
      · rw [List.getElem?_map] at hj
        obtain ⟨j', hj1, rfl⟩ := Option.map_eq_some_iff.mp hj
        obtain ⟨hj2, hj3⟩ := List.getElem?_eq_some_iff.1 hj1
        rw [List.getElem_range] at hj3
        subst hj3
        rw [List.length_range] at hj2
        obtain ⟨r0, r1, r2, _⟩ := hq j hj2
        refine ⟨[.int .i64 (q j).1, .int .i64 (q j).2.1, .string (q j).2.2], rfl, k49_mk W _, fun i u hu => ?_⟩
        match i, hu with
        | 0, hu => simp only [List.getElem?_cons_zero, Option.some.injEq] at hu; subst hu; show W.cell? (a.add (j * 3 + 0)) = _; simpa using r0
        | 1, hu => simp at hu; subst hu; exact r1
        | 2, hu => simp at hu; subst hu; exact r2
        | i + 3, hu => simp at hu
    · intro x hx'
      obtain ⟨j, hj, rfl⟩ := List.mem_map.mp hx'
      rw [List.mem_range] at hj
      have := (hq j hj).2.2.2
      simpa [maxLen] using this
end Go.Proofs.YtgpebahbeccniaaDoor.QFnExactAreApart
