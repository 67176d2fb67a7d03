/- A law's argument that is a slice of slices of whole numbers, opened: plain lemmas over any program. -/
import Derived.Test.YtfjpejdlgmlmhaaDoorWWords
import Derived.Test.YtfjpejdlgmlmhaaDoorWLast
import Derived.Test.YtfjpejdlgmlmhaaDoorWMore
import Derived.Deep.Matrix
import Derived.SizedLaws
namespace Go.Proofs.YtfjpejdlgmlmhaaDoorZr
open Go.RowKit Go.Proofs.YtfjpejdlgmlmhaaDoorW.PrintWords Go.Proofs.YtfjpejdlgmlmhaaDoorW.PrintLast Go.Proofs.YtfjpejdlgmlmhaaDoorW.PrintMore
variable {P : Program}
theorem zWeightsAll {H : Type} (e : TypeId) : ∀ (ds : List (DataW H)) (d : DataW H), d ∈ ds → ∀ n ∈ d.weights P e, n ∈ DataW.weightsAll P e ds
  | [], _, h, _, _ => by cases h
  | x :: ds, d, h, n, hn => by
    rw [DataW.weightsAll, List.mem_append]
    rcases List.mem_cons.mp h with rfl | h
    · exact .inl hn
    · exact .inr (zWeightsAll e ds d h n hn)
/-- A slice of slices of whole numbers that came in: what it reads as, and how much it is. -/
theorem zOpenRows {H : Type} {enc : TypeId × Value → H} {W : World} {t e q : TypeId} {a0 : Option Addr} {len cap : Nat} {d : DataW H} {p : List MemPlace} (ht : P.underlying t = some (.slice e)) (he : P.underlying e = some (.slice q)) (hq : P.underlying q = some (.int .i64))
    (ce : P.cellsOf e = 1) (cq : P.cellsOf q = 1) (be : P.bytesOf e = 24) (bq : P.bytesOf q = 8) (h : DataW.Trod enc P W 0 (fun _ => true) true t (.slice a0 len cap) d p) (hw : ∀ n ∈ d.weights P t, n ≤ reachBytes) :
    ∃ l0 : List (List Int), l0.length = len ∧ (Kd.slice q (Kd.int .i64)).C W a0 l0.length l0 ∧ l0.length ≤ cap ∧ l0.length * 24 ≤ 140737488351232 ∧ (∀ r ∈ l0, r.length * 8 ≤ 140737488351232) ∧ ∀ r ∈ l0, ∀ x ∈ r, (Lit.int .i64 x).wf = true := by
  obtain ⟨fuel, hf⟩ := h
  rcases Go.Deep.open_int_rows ht he hq ce cq hf with ⟨hcs, _⟩ | ⟨a, len', cap', A, L, C, Z, hcs, _, hl, hm, hx, hr⟩
  · simp [Value.cells] at hcs
    obtain ⟨rfl, rfl, rfl⟩ := hcs
    exact ⟨[], rfl, Kd.C_nil _ _, Nat.le_refl _, by simp, by simp, by simp⟩
  · simp [Value.cells] at hcs
    obtain ⟨rfl, rfl, rfl⟩ := hcs
    simp only [Prod.mk.injEq] at hx
    obtain ⟨rfl, rfl⟩ := hx
    refine ⟨(List.range len).map fun r => (Z r).take (L r), by simp, ?_, by simpa using hl, ?_, ?_, ?_⟩
    · refine ⟨rfl, ?_, fun _ => ⟨a, rfl, fun j ps hj => ?_⟩⟩
      · simp [maxLen] at hm ⊢; omega
      · rw [List.getElem?_map] at hj
        obtain ⟨j', hj1, rfl⟩ := Option.map_eq_some_iff.mp hj
        obtain ⟨hj2, hj3⟩ := List.getElem?_eq_some_iff.1 hj1
        rw [List.getElem_range] at hj3
        subst hj3
        rw [List.length_range] at hj2
        obtain ⟨r1, r2, r3, r4, r5, r6, r7⟩ := hr j (by omega)
        have e1 : ((Z j).take (L j)).length = L j := by rw [List.length_take, r4]; omega
        refine ⟨[.slice (A j) (L j) (C j)], rfl, ⟨A j, C j, by rw [e1], by rw [e1]; exact r2, ?_⟩, fun i u hu => ?_⟩
        · rw [e1]
          refine ⟨e1, by simp [maxLen] at r3; omega, fun h0 => ?_⟩
          cases hA : A j with
          | none => have := r6 hA; omega
          | some a' =>
            obtain ⟨_, s2⟩ := r7 a' hA
            refine ⟨a', rfl, fun c v hv => ⟨[.int .i64 v], rfl, rfl, fun i u hu => ?_⟩⟩
            cases i with
            | zero =>
              simp only [List.getElem?_cons_zero, Option.some.injEq] at hu
              subst hu
              have hc : c < L j := by have := (List.getElem?_eq_some_iff.1 hv).1; omega
              have hv2 : (Z j)[c]? = some v := by rw [← hv, List.getElem?_take_of_lt hc]
              have := s2 c (by omega)
              rw [List.getD_eq_getElem?_getD, hv2] at this
              show W.cell? (a'.add (c * 1 + 0)) = _
              simpa using this
            | succ i => simp at hu
        · cases i with
          | zero =>
            simp only [List.getElem?_cons_zero, Option.some.injEq] at hu
            subst hu
            show W.cell? (a.add (j * 1 + 0)) = _
            simpa using r1
          | succ i => simp at hu
    · have := hw ((((List.range len).map fun r => Go.Deep.intRow (H := H) .i64 (A r) (L r) (Z r)).length + ((List.range (cap - len)).map fun j => Go.Deep.intRow (H := H) .i64 (A (len + j)) (L (len + j)) (Z (len + j))).length) * P.bytesOf e) (by simp [DataW.weights, ht])
      rw [be] at this
      simp [reachBytes] at this ⊢; omega
    · intro r hr'
      obtain ⟨j, hj, rfl⟩ := List.mem_map.mp hr'
      rw [List.mem_range] at hj
      obtain ⟨r1, r2, r3, r4, r5, r6, r7⟩ := hr j (by omega)
      have e1 : ((Z j).take (L j)).length = L j := by rw [List.length_take, r4]; omega
      rw [e1]
      cases hA : A j with
      | none => have := r6 hA; omega
      | some a' =>
        have := hw (((Go.ChangeShapes.lits .i64 ((Z j).take (L j)) : List (DataW H)).length + (Go.ChangeShapes.lits .i64 ((Z j).drop (L j)) : List (DataW H)).length) * P.bytesOf q) (by
          simp only [DataW.weights, ht, List.mem_cons, List.mem_append]
          refine .inr (.inl (zWeightsAll e _ (Go.Deep.intRow .i64 (A j) (L j) (Z j)) (List.mem_map.mpr ⟨j, List.mem_range.mpr hj, rfl⟩) _ ?_))
          rw [hA]; simp [Go.Deep.intRow, DataW.weights, he])
        rw [bq] at this
        simp [Go.ChangeShapes.lits, reachBytes] at this
        omega
    · intro r hr' x hx
      obtain ⟨j, hj, rfl⟩ := List.mem_map.mp hr'
      rw [List.mem_range] at hj
      obtain ⟨r1, r2, r3, r4, r5, r6, r7⟩ := hr j (by omega)
      exact r5 x (List.mem_of_mem_take hx)
end Go.Proofs.YtfjpejdlgmlmhaaDoorZr
