/- The law FnForestsTold holds of the functions that the walks show: forests are trees written node by node, the program's and the reference's parents, depths and mirrors are those of the trees, and counts of degrees have as many orders as both tell; the law tells true for all bytes. -/
import Derived.Test.YtjjkglfpcdedlaaQFnForestsToldx12
import Derived.Test.YtjjkglfpcdedlaaZpl
namespace Go.Proofs.Ytjjkglfpcdedlaa.PuqFnForestsTold
open Go.RowKit Go.Proofs.Ytjjkglfpcdedlaa.QFnForestsTold Go.Proofs.YtjjkglfpcdedlaaW.PrintWords Go.Proofs.YtjjkglfpcdedlaaW.PrintLast Go.Proofs.YtjjkglfpcdedlaaPl
set_option linter.unusedVariables false

theorem up {α : Type} (F : Nat → Option α) (hm : ∀ k, LeO (F k) (F (k + 1))) {k0 : Nat} {r : α} (h : F k0 = some r) : ∀ d, F (k0 + d) = some r
  | 0 => h
  | d + 1 => hm _ _ (up F hm h d)
theorem up' {α : Type} (F : Nat → Option α) (hm : ∀ k, LeO (F k) (F (k + 1))) {k0 : Nat} {r : α} (h : F k0 = some r) (k : Nat) (hk : k0 ≤ k) : F k = some r := by
  obtain ⟨d, rfl⟩ : ∃ d, k = k0 + d := ⟨k - k0, by omega⟩
  exact up F hm h d

/-! ### Lists of degrees, their rotations -/
theorem rw_suc (i : Nat) (h : i ≤ 100000) : wrap64 ((i : Int) + 1) = ((i + 1 : Nat) : Int) := by rw [w64 (by omega) (by omega)]; omega
theorem rl (a b : Nat) (h : a < b) : (a : Int) < (b : Int) := by omega
theorem rnl (a b : Nat) (h : ¬ a < b) : ¬ (a : Int) < (b : Int) := by omega
theorem rdg (xs : List Int) (i : Nat) : rd xs (i : Int) = xs.getD i 0 := by unfold rd; rw [Int.toNat_natCast]
theorem getD_lt (xs : List Int) (i : Nat) (h : i < xs.length) : xs.getD i 0 = xs[i] := by rw [List.getD_eq_getElem?_getD, List.getElem?_eq_getElem h]; rfl
/-- Are these degrees? -/
def deg (L : List Int) : Bool := (decide (1 ≤ L.length) && decide (L.length ≤ 16)) && L.all fun x => decide (0 ≤ x) && decide (x ≤ 16)
theorem deg_iff (L : List Int) : deg L = true ↔ (1 ≤ L.length ∧ L.length ≤ 16) ∧ ∀ x ∈ L, 0 ≤ x ∧ x ≤ 16 := by
  unfold deg
  rw [Bool.and_eq_true, Bool.and_eq_true, List.all_eq_true, decide_eq_true_eq, decide_eq_true_eq]
  exact ⟨fun h => ⟨h.1, fun x hx => by have := h.2 x hx; simpa using this⟩, fun h => ⟨h.1, fun x hx => by have := h.2 x hx; simpa using this⟩⟩
theorem deg_get (L : List Int) (h : ∀ x ∈ L, 0 ≤ x ∧ x ≤ 16) (i : Nat) (hi : i < L.length) : 0 ≤ L.getD i 0 ∧ L.getD i 0 ≤ 16 := by rw [getD_lt L i hi]; exact h _ (List.getElem_mem hi)
theorem in_d (a b c : Int) : impl_in.f a b c = some (decide (b ≤ a) && decide (a ≤ c)) := by
  unfold impl_in.f
  by_cases h : b ≤ a
  · rw [if_pos h, decide_eq_true h, Bool.true_and]
  · rw [if_neg h, decide_eq_false h, Bool.false_and]
theorem l1In_d (a b c : Int) : spec_l1In.f a b c = some (decide (b ≤ a) && decide (a ≤ c)) := by
  unfold spec_l1In.f
  by_cases h : b ≤ a
  · rw [if_pos h, decide_eq_true h, Bool.true_and]
  · rw [if_neg h, decide_eq_false h, Bool.false_and]
def inD (x : Int) : Bool := decide (0 ≤ x) && decide (x ≤ 16)
theorem idx_l (L : List Int) (hl : L.length ≤ 1000) (d : Nat) : ∀ i k : Nat, i + d = L.length → d < k → ∃ r, slices_IndexFunc_int_int.l0 k impl_IsDegrees_1.f L (L.length : Int) (i : Int) = some r ∧ decide (r ≥ 0) = !(L.drop i).all inD := by
  induction d with
  | zero =>
    intro i k h1 h2
    obtain ⟨k, rfl⟩ : ∃ m, k = m + 1 := ⟨k - 1, by omega⟩
    refine ⟨-1, ?_, ?_⟩
    · simp only [slices_IndexFunc_int_int.l0]
      rw [if_neg (rnl _ _ (by omega))]
    · rw [List.drop_eq_nil_of_le (by omega)]; rfl
  | succ d ih =>
    intro i k h1 h2
    obtain ⟨k, rfl⟩ : ∃ m, k = m + 1 := ⟨k - 1, by omega⟩
    have hi : i < L.length := by omega
    have e1 := rw_suc i (by omega)
    simp only [slices_IndexFunc_int_int.l0, e1, rdg]
    rw [if_pos (rl _ _ hi), if_pos (Int.natCast_nonneg i), if_pos (rl _ _ hi), List.drop_eq_getElem_cons hi, List.all_cons, ← getD_lt L i hi]
    have ef : impl_IsDegrees_1.f (L.getD i 0) = !inD (L.getD i 0) := rfl
    rw [ef]
    cases c : inD (L.getD i 0) with
    | true =>
      rw [if_neg (by simp), Bool.true_and]
      exact ih (i + 1) k (by omega) (by omega)
    | false =>
      rw [if_pos (by simp), Bool.false_and]
      exact ⟨(i : Int), rfl, by rw [decide_eq_true (Int.natCast_nonneg i)]; rfl⟩
theorem isDeg_eq (L : List Int) (k : Nat) (hk : 1000 < k) : impl_IsDegrees.f k L = some (deg L) := by
  unfold impl_IsDegrees.f deg
  rw [in_d]
  simp only [Option.bind_some]
  by_cases h : 1 ≤ L.length ∧ L.length ≤ 16
  · have e : (decide ((1 : Int) ≤ (L.length : Int)) && decide ((L.length : Int) ≤ 16)) = true := by simp; omega
    have e2 : (decide (1 ≤ L.length) && decide (L.length ≤ 16)) = true := by simp [h]
    rw [e, if_pos rfl, e2, Bool.true_and]
    unfold slices_ContainsFunc_int_int.f slices_IndexFunc_int_int.f
    obtain ⟨r, h1, h2⟩ := idx_l L (by omega) L.length 0 k (by omega) (by omega)
    have h1 : slices_IndexFunc_int_int.l0 k impl_IsDegrees_1.o.f L (L.length : Int) 0 = some r := h1
    rw [h1]
    simp only [Option.bind_some]
    rw [h2, List.drop_zero, Bool.not_not]
    rfl
  · have e : (decide ((1 : Int) ≤ (L.length : Int)) && decide ((L.length : Int) ≤ 16)) = false := by
      rw [Bool.and_eq_false_iff, decide_eq_false_iff_not, decide_eq_false_iff_not]; omega
    have e2 : (decide (1 ≤ L.length) && decide (L.length ≤ 16)) = false := by rw [Bool.and_eq_false_iff, decide_eq_false_iff_not, decide_eq_false_iff_not]; omega
    rw [e, if_neg Bool.false_ne_true, e2, Bool.false_and]
theorem all_l (L : List Int) (hl : L.length ≤ 1000) (d : Nat) : ∀ i k : Nat, i + d = L.length → d < k → spec_l1All.l0 k 0 16 L (L.length : Int) (i : Int) = some ((L.drop i).all inD) := by
  induction d with
  | zero =>
    intro i k h1 h2
    obtain ⟨k, rfl⟩ : ∃ m, k = m + 1 := ⟨k - 1, by omega⟩
    simp only [spec_l1All.l0]
    rw [if_neg (rnl _ _ (by omega)), List.drop_eq_nil_of_le (by omega)]; rfl
  | succ d ih =>
    intro i k h1 h2
    obtain ⟨k, rfl⟩ : ∃ m, k = m + 1 := ⟨k - 1, by omega⟩
    have hi : i < L.length := by omega
    have e1 := rw_suc i (by omega)
    simp only [spec_l1All.l0, e1, rdg, l1In_d, Option.bind_some]
    rw [if_pos (rl _ _ hi), if_pos (Int.natCast_nonneg i), if_pos (rl _ _ hi), List.drop_eq_getElem_cons hi, List.all_cons, ← getD_lt L i hi, ih (i + 1) k (by omega) (by omega)]
    show (if inD (L.getD i 0) = true then _ else _) = some (inD (L.getD i 0) && _)
    cases inD (L.getD i 0) <;> rfl
theorem cyGood_eq (L : List Int) (k : Nat) (hk : 1000 < k) : spec_cyGood.f k L = some (deg L) := by
  unfold spec_cyGood.f deg
  rw [l1In_d]
  simp only [Option.bind_some]
  by_cases h : 1 ≤ L.length ∧ L.length ≤ 16
  · have e : (decide ((1 : Int) ≤ (L.length : Int)) && decide ((L.length : Int) ≤ 16)) = true := by simp; omega
    have e2 : (decide (1 ≤ L.length) && decide (L.length ≤ 16)) = true := by simp [h]
    rw [e, if_pos rfl, e2, Bool.true_and]
    unfold spec_l1All.f
    have := all_l L (by omega) L.length 0 k (by omega) (by omega)
    rw [List.drop_zero] at this
    have h3 : spec_l1All.l0 k 0 16 L (L.length : Int) 0 = _ := this
    rw [h3]; rfl
  · have e : (decide ((1 : Int) ≤ (L.length : Int)) && decide ((L.length : Int) ≤ 16)) = false := by
      rw [Bool.and_eq_false_iff, decide_eq_false_iff_not, decide_eq_false_iff_not]; omega
    have e2 : (decide (1 ≤ L.length) && decide (L.length ≤ 16)) = false := by rw [Bool.and_eq_false_iff, decide_eq_false_iff_not, decide_eq_false_iff_not]; omega
    rw [e, if_neg Bool.false_ne_true, e2, Bool.false_and]
/-! ### Excess, sums -/
theorem ex_w (acc x : Int) (h : -1000000 ≤ acc ∧ acc ≤ 1000000) (hx : 0 ≤ x ∧ x ≤ 16) : wrap64 (acc - x) = acc - x := w64 (by omega) (by omega)
theorem ad_w (acc x : Int) (h : -1000000 ≤ acc ∧ acc ≤ 1000000) (hx : 0 ≤ x ∧ x ≤ 16) : wrap64 (acc + x) = acc + x := w64 (by omega) (by omega)
theorem exI_l (L : List Int) (hL : ∀ x ∈ L, 0 ≤ x ∧ x ≤ 16) (hl : L.length ≤ 1000) (d : Nat) : ∀ (i k : Nat) (acc : Int), i + d = L.length → d < k → -1000000 + 16 * (d : Int) ≤ acc → acc ≤ 1000000 → impl_excess.l0 k acc L (L.length : Int) (i : Int) = some (acc - (L.drop i).sum) := by
  induction d with
  | zero =>
    intro i k acc h1 h2 h3 h4
    obtain ⟨k, rfl⟩ : ∃ m, k = m + 1 := ⟨k - 1, by omega⟩
    simp only [impl_excess.l0]
    rw [if_neg (rnl _ _ (by omega)), List.drop_eq_nil_of_le (by omega), List.sum_nil]; congr 1; omega
  | succ d ih =>
    intro i k acc h1 h2 h3 h4
    obtain ⟨k, rfl⟩ : ∃ m, k = m + 1 := ⟨k - 1, by omega⟩
    have hi : i < L.length := by omega
    have e1 := rw_suc i (by omega)
    have hx := deg_get L hL i hi
    have e2 := ex_w acc (L.getD i 0) (by omega) hx
    simp only [impl_excess.l0, e1, rdg, e2]
    rw [if_pos (rl _ _ hi), if_pos (Int.natCast_nonneg i), if_pos (rl _ _ hi), List.drop_eq_getElem_cons hi, List.sum_cons, ← getD_lt L i hi, ih (i + 1) k _ (by omega) (by omega) (by omega) (by omega)]
    congr 1; omega
theorem exS_l (L : List Int) (hL : ∀ x ∈ L, 0 ≤ x ∧ x ≤ 16) (hl : L.length ≤ 1000) (d : Nat) : ∀ (i k : Nat) (acc : Int), i + d = L.length → d < k → -1000000 + 16 * (d : Int) ≤ acc → acc ≤ 1000000 → spec_cyExcess.l0 k acc L (L.length : Int) (i : Int) = some (acc - (L.drop i).sum) := by
  induction d with
  | zero =>
    intro i k acc h1 h2 h3 h4
    obtain ⟨k, rfl⟩ : ∃ m, k = m + 1 := ⟨k - 1, by omega⟩
    simp only [spec_cyExcess.l0]
    rw [if_neg (rnl _ _ (by omega)), List.drop_eq_nil_of_le (by omega), List.sum_nil]; congr 1; omega
  | succ d ih =>
    intro i k acc h1 h2 h3 h4
    obtain ⟨k, rfl⟩ : ∃ m, k = m + 1 := ⟨k - 1, by omega⟩
    have hi : i < L.length := by omega
    have e1 := rw_suc i (by omega)
    have hx := deg_get L hL i hi
    have e2 := ex_w acc (L.getD i 0) (by omega) hx
    simp only [spec_cyExcess.l0, e1, rdg, e2]
    rw [if_pos (rl _ _ hi), if_pos (Int.natCast_nonneg i), if_pos (rl _ _ hi), List.drop_eq_getElem_cons hi, List.sum_cons, ← getD_lt L i hi, ih (i + 1) k _ (by omega) (by omega) (by omega) (by omega)]
    congr 1; omega
theorem xSum_l (L : List Int) (hL : ∀ x ∈ L, 0 ≤ x ∧ x ≤ 16) (hl : L.length ≤ 1000) (d : Nat) : ∀ (i k : Nat) (acc : Int), i + d = L.length → d < k → -1000000 ≤ acc → acc + 16 * (d : Int) ≤ 1000000 → laws_xSum.l0 k acc L (L.length : Int) (i : Int) = some (acc + (L.drop i).sum) := by
  induction d with
  | zero =>
    intro i k acc h1 h2 h3 h4
    obtain ⟨k, rfl⟩ : ∃ m, k = m + 1 := ⟨k - 1, by omega⟩
    simp only [laws_xSum.l0]
    rw [if_neg (rnl _ _ (by omega)), List.drop_eq_nil_of_le (by omega), List.sum_nil]; congr 1; omega
  | succ d ih =>
    intro i k acc h1 h2 h3 h4
    obtain ⟨k, rfl⟩ : ∃ m, k = m + 1 := ⟨k - 1, by omega⟩
    have hi : i < L.length := by omega
    have e1 := rw_suc i (by omega)
    have hx := deg_get L hL i hi
    have e2 := ad_w acc (L.getD i 0) (by omega) hx
    simp only [laws_xSum.l0, e1, rdg, e2]
    rw [if_pos (rl _ _ hi), if_pos (Int.natCast_nonneg i), if_pos (rl _ _ hi), List.drop_eq_getElem_cons hi, List.sum_cons, ← getD_lt L i hi, ih (i + 1) k _ (by omega) (by omega) (by omega) (by omega)]
    congr 1; omega
/-- The excess. -/
def exc (L : List Int) : Int := (L.length : Int) - L.sum
theorem excI (L : List Int) (hL : ∀ x ∈ L, 0 ≤ x ∧ x ≤ 16) (hl : L.length ≤ 1000) (k : Nat) (hk : 1000 < k) : impl_excess.f k L = some (exc L) := by
  have := exI_l L hL hl L.length 0 k (L.length : Int) (by omega) (by omega) (by omega) (by omega)
  rw [List.drop_zero] at this
  exact this
theorem excS (L : List Int) (hL : ∀ x ∈ L, 0 ≤ x ∧ x ≤ 16) (hl : L.length ≤ 1000) (k : Nat) (hk : 1000 < k) : spec_cyExcess.f k L = some (exc L) := by
  have := exS_l L hL hl L.length 0 k (L.length : Int) (by omega) (by omega) (by omega) (by omega)
  rw [List.drop_zero] at this
  exact this
theorem xSum_eq (L : List Int) (hL : ∀ x ∈ L, 0 ≤ x ∧ x ≤ 16) (hl : L.length ≤ 1000) (k : Nat) (hk : 1000 < k) : laws_xSum.f k L = some L.sum := by
  have := xSum_l L hL hl L.length 0 k 0 (by omega) (by omega) (by omega) (by omega)
  rw [List.drop_zero, Int.zero_add] at this
  exact this
theorem sum_b (L : List Int) (h : ∀ x ∈ L, 0 ≤ x ∧ x ≤ 16) : 0 ≤ L.sum ∧ L.sum ≤ 16 * (L.length : Int) := by
  induction L with
  | nil => simp
  | cons x xs ih =>
    have h1 := h x List.mem_cons_self
    have h2 := ih fun y hy => h y (List.mem_cons_of_mem _ hy)
    rw [List.sum_cons, List.length_cons]
    omega

/-! ### Rotations, forests -/
def rot (L : List Int) (k : Nat) : List Int := L.drop k ++ L.take k
theorem rot_len (L : List Int) (k : Nat) : (rot L k).length = L.length := by unfold rot; rw [List.length_append, List.length_drop, List.length_take]; omega
theorem rot_mem (L : List Int) (k : Nat) (x : Int) : x ∈ rot L k ↔ x ∈ L := by
  unfold rot
  rw [List.mem_append]
  constructor
  · rintro (h | h)
    · exact List.mem_of_mem_drop h
    · exact List.mem_of_mem_take h
  · intro h
    rw [← List.take_append_drop k L, List.mem_append] at h
    exact h.symm
theorem rot_deg (L : List Int) (k : Nat) : deg (rot L k) = deg L := by
  rw [Bool.eq_iff_iff, deg_iff, deg_iff, rot_len]
  exact ⟨fun h => ⟨h.1, fun x hx => h.2 x ((rot_mem L k x).mpr hx)⟩, fun h => ⟨h.1, fun x hx => h.2 x ((rot_mem L k x).mp hx)⟩⟩
theorem rot_sum (L : List Int) (k : Nat) : (rot L k).sum = L.sum := by
  unfold rot
  rw [List.sum_append, Int.add_comm, ← List.sum_append, List.take_append_drop]
theorem rot_exc (L : List Int) (k : Nat) : exc (rot L k) = exc L := by unfold exc; rw [rot_len, rot_sum]
theorem rotS (L : List Int) (hl : L.length ≤ 100) (j : Nat) (hj : j ≤ L.length) : spec_cyRotate.f L (j : Int) = some (rot L j) := by
  unfold spec_cyRotate.f spec_l1Own.f
  rw [if_pos (Int.natCast_nonneg j), if_pos (by omega), Int.toNat_natCast]
  simp only [Option.bind_some, List.nil_append, List.length_nil]
  rw [if_pos (by rw [List.length_drop]; omega), Option.bind_some, if_pos (by rw [List.length_drop, List.length_take]; omega)]
  rfl
/-- Sums of the first degrees, less one each. -/
def ps (L : List Int) : Nat → Int
  | 0 => 0
  | j + 1 => ps L j + (L.getD j 0 - 1)
theorem ps_b (L : List Int) (hL : ∀ x ∈ L, 0 ≤ x ∧ x ≤ 16) : ∀ j : Nat, -(j : Int) ≤ ps L j ∧ ps L j ≤ 15 * (j : Int)
  | 0 => by simp [ps]
  | j + 1 => by
    have ih := ps_b L hL j
    have hx : 0 ≤ L.getD j 0 ∧ L.getD j 0 ≤ 16 := by
      by_cases h : j < L.length
      · exact deg_get L hL j h
      · rw [List.getD_eq_getElem?_getD, List.getElem?_eq_none (by omega)]; simp
    unfold ps
    omega
def ok1 (L : List Int) (j : Nat) : Bool := decide (-(exc L) < ps L (j + 1))
/-- Are degrees a forest? -/
def fst (L : List Int) : Bool := decide (1 ≤ exc L) && (List.range (L.length - 1)).all (ok1 L)
theorem fo_w (s x : Int) (hs : -2000 ≤ s ∧ s ≤ 2000) (hx : 0 ≤ x ∧ x ≤ 16) : wrap64 (s + wrap64 (x - 1)) = s + (x - 1) := by rw [w64 (x := x - 1) (by omega) (by omega), w64 (by omega) (by omega)]
theorem neg_w (r : Int) (h : -1000 ≤ r ∧ r ≤ 1000) : wrap64 (-r) = -r := w64 (by omega) (by omega)
theorem exc_b (L : List Int) (hL : ∀ x ∈ L, 0 ≤ x ∧ x ≤ 16) (hl : L.length ≤ 17) : -1000 ≤ exc L ∧ exc L ≤ 1000 := by
  have := sum_b L hL
  unfold exc
  omega
theorem foI_l (L : List Int) (hL : ∀ x ∈ L, 0 ≤ x ∧ x ≤ 16) (hl : L.length ≤ 17) (n : Nat) (hn : n ≤ L.length) (d : Nat) : ∀ i k : Nat, i + d = n → d < k →
    impl_isForest.l0 k (exc L) (ps L i) (L.take n) ((L.take n).length : Int) (i : Int) = some ((List.range' i d).all (ok1 L) && decide (1 ≤ exc L)) := by
  have hlen : (L.take n).length = n := by rw [List.length_take]; omega
  induction d with
  | zero =>
    intro i k h1 h2
    obtain ⟨k, rfl⟩ : ∃ m, k = m + 1 := ⟨k - 1, by omega⟩
    simp only [impl_isForest.l0]
    rw [hlen, if_neg (rnl _ _ (by omega))]; rfl
  | succ d ih =>
    intro i k h1 h2
    obtain ⟨k, rfl⟩ : ∃ m, k = m + 1 := ⟨k - 1, by omega⟩
    have hi : i < n := by omega
    have hi2 : i < L.length := by omega
    have e1 := rw_suc i (by omega)
    have eg : rd (L.take n) (i : Int) = L.getD i 0 := by rw [rdg, List.getD_eq_getElem?_getD, List.getD_eq_getElem?_getD, List.getElem?_take_of_lt hi]
    have hb := ps_b L hL i
    have e2 := fo_w (ps L i) (L.getD i 0) (by omega) (deg_get L hL i hi2)
    have e3 := neg_w (exc L) (exc_b L hL hl)
    have f := ih (i + 1) k (by omega) (by omega)
    simp only [impl_isForest.l0, e1, eg, e2, e3]
    rw [hlen] at f ⊢
    rw [if_pos (rl _ _ hi), if_pos (Int.natCast_nonneg i), if_pos (rl _ _ hi), List.range'_succ, List.all_cons]
    have eo : ok1 L i = decide (-(exc L) < ps L i + (L.getD i 0 - 1)) := rfl
    by_cases c : ps L i + (L.getD i 0 - 1) ≤ -(exc L)
    · rw [if_pos c, eo, decide_eq_false (by omega)]; rfl
    · rw [if_neg c, eo, decide_eq_true (by omega), Bool.true_and]
      exact f
theorem foI (L : List Int) (h : deg L = true) (k : Nat) (hk : 1000 < k) : impl_isForest.f k L = some (fst L) := by
  obtain ⟨⟨h1, h2⟩, h3⟩ := (deg_iff L).mp h
  have e1 : wrap64 ((L.length : Int) - 1) = ((L.length - 1 : Nat) : Int) := by rw [w64 (by omega) (by omega)]; omega
  unfold impl_isForest.f
  rw [excI L h3 (by omega) k hk, Option.bind_some, e1, if_pos (Int.natCast_nonneg _), if_pos (by omega), Int.toNat_natCast]
  have := foI_l L h3 (by omega) (L.length - 1) (by omega) (L.length - 1) 0 k (by omega) (by omega)
  have h4 : impl_isForest.l0 k (exc L) 0 (L.take (L.length - 1)) ((L.take (L.length - 1)).length : Int) 0 = _ := this
  rw [h4, ← List.range_eq_range', Bool.and_comm]
  rfl
theorem foS_l (L : List Int) (hL : ∀ x ∈ L, 0 ≤ x ∧ x ≤ 16) (hl : L.length ≤ 17) (d : Nat) : ∀ i k : Nat, i + d = L.length → d < k →
    spec_cyForest.l0 k L (exc L) (ps L i) L (L.length : Int) (i : Int) = some ((List.range' i (d - 1)).all (ok1 L)) := by
  induction d with
  | zero =>
    intro i k h1 h2
    obtain ⟨k, rfl⟩ : ∃ m, k = m + 1 := ⟨k - 1, by omega⟩
    simp only [spec_cyForest.l0]
    rw [if_neg (rnl _ _ (by omega))]; rfl
  | succ d ih =>
    intro i k h1 h2
    obtain ⟨k, rfl⟩ : ∃ m, k = m + 1 := ⟨k - 1, by omega⟩
    have hi : i < L.length := by omega
    have e1 := rw_suc i (by omega)
    have hb := ps_b L hL i
    have e2 := fo_w (ps L i) (L.getD i 0) (by omega) (deg_get L hL i hi)
    have e3 := neg_w (exc L) (exc_b L hL hl)
    have f := ih (i + 1) k (by omega) (by omega)
    have f' : spec_cyForest.l0 k L (exc L) (ps L i + (L.getD i 0 - 1)) L (L.length : Int) ((i + 1 : Nat) : Int) = _ := f
    simp only [spec_cyForest.l0, e1, rdg, e2, e3]
    rw [if_pos (rl _ _ hi), if_pos (Int.natCast_nonneg i), if_pos (rl _ _ hi), f']
    have eo : ok1 L i = decide (-(exc L) < ps L i + (L.getD i 0 - 1)) := rfl
    by_cases hd : d = 0
    · subst hd
      rw [if_neg (rnl (i + 1) L.length (by omega))]
      split <;> rfl
    · obtain ⟨d', rfl⟩ : ∃ d', d = d' + 1 := ⟨d - 1, by omega⟩
      rw [show d' + 1 + 1 - 1 = d' + 1 by omega, show d' + 1 - 1 = d' by omega, List.range'_succ, List.all_cons, if_pos (rl (i + 1) L.length (by omega))]
      by_cases c : ps L i + (L.getD i 0 - 1) ≤ -(exc L)
      · rw [if_pos c, eo, decide_eq_false (by omega)]; rfl
      · rw [if_neg c, eo, decide_eq_true (by omega), Bool.true_and]
theorem foS (L : List Int) (h : deg L = true) (k : Nat) (hk : 1000 < k) : spec_cyForest.f k L = some (fst L) := by
  obtain ⟨⟨h1, h2⟩, h3⟩ := (deg_iff L).mp h
  unfold spec_cyForest.f fst
  rw [excS L h3 (by omega) k hk, Option.bind_some]
  by_cases c : exc L < 1
  · rw [if_pos c, decide_eq_false (by omega)]; rfl
  · rw [if_neg c, decide_eq_true (by omega), Bool.true_and]
    have := foS_l L h3 (by omega) L.length 0 k (by omega) (by omega)
    have h4 : spec_cyForest.l0 k L (exc L) 0 L (L.length : Int) 0 = _ := this
    rw [h4, ← List.range_eq_range']

def gl (p : Nat → Bool) (n : Nat) : List Int := ((List.range n).filter p).map fun j : Nat => (j : Int)
theorem gl_succ (p : Nat → Bool) (n : Nat) : gl p (n + 1) = if p n = true then gl p n ++ [(n : Int)] else gl p n := by
  unfold gl
  rw [List.range_succ, List.filter_append]
  by_cases c : p n = true
  · rw [if_pos c, show [n].filter p = [n] by simp [c], List.map_append]; rfl
  · rw [if_neg c, show [n].filter p = [] by simp [c], List.append_nil]
theorem gl_len (p : Nat → Bool) (n : Nat) : (gl p n).length = (List.range n).countP p := by
  unfold gl
  rw [List.length_map, List.countP_eq_length_filter]
theorem gl_le (p : Nat → Bool) (n : Nat) : (gl p n).length ≤ n := by
  rw [gl_len]
  exact Nat.le_trans List.countP_le_length (by rw [List.length_range]; exact Nat.le_refl _)
theorem gl_mem (p : Nat → Bool) (n j : Nat) : (j : Int) ∈ gl p n ↔ j < n ∧ p j = true := by
  unfold gl
  rw [List.mem_map]
  constructor
  · rintro ⟨i, h1, h2⟩
    rw [List.mem_filter, List.mem_range] at h1
    obtain rfl : i = j := by omega
    exact h1
  · intro h
    exact ⟨j, by rw [List.mem_filter, List.mem_range]; exact h, rfl⟩
theorem goodS_l (L : List Int) (h : deg L = true) (d : Nat) : ∀ i k : Nat, i + d = L.length → d + 1000 < k → spec_GoodRotations.l0 k L (gl (fun j => fst (rot L j)) i) (L.length : Int) (i : Int) = some (gl (fun j => fst (rot L j)) L.length, true) := by
  obtain ⟨⟨h1, h2⟩, h3⟩ := (deg_iff L).mp h
  induction d with
  | zero =>
    intro i k q1 q2
    obtain ⟨k, rfl⟩ : ∃ m, k = m + 1 := ⟨k - 1, by omega⟩
    obtain rfl : i = L.length := by omega
    simp only [spec_GoodRotations.l0]
    rw [if_neg (rnl _ _ (by omega))]
  | succ d ih =>
    intro i k q1 q2
    obtain ⟨k, rfl⟩ : ∃ m, k = m + 1 := ⟨k - 1, by omega⟩
    have hi : i < L.length := by omega
    have e1 := rw_suc i (by omega)
    have f := ih (i + 1) k (by omega) (by omega)
    rw [gl_succ] at f
    have hg := gl_le (fun j => fst (rot L j)) i
    rw [spec_GoodRotations.l0, if_pos (rl _ _ hi), rotS L (by omega) i (by omega), Option.bind_some, foS (rot L i) (by rw [rot_deg]; exact h) k (by omega), Option.bind_some, e1]
    by_cases c : fst (rot L i) = true
    · rw [if_pos c] at f
      rw [if_pos c, if_pos (by omega)]
      exact f
    · rw [if_neg c] at f
      rw [if_neg c]
      exact f
def good (L : List Int) : List Int := if deg L = true then gl (fun j => fst (rot L j)) L.length else []
theorem goodS (L : List Int) (k : Nat) (hk : 3000 < k) : spec_GoodRotations.f k L = some (good L, deg L) := by
  unfold spec_GoodRotations.f good
  rw [cyGood_eq L k (by omega), Option.bind_some]
  by_cases h : deg L = true
  · have hl := ((deg_iff L).mp h).1.2
    rw [if_pos h, if_pos h, h]
    exact goodS_l L h L.length 0 k (by omega) (by omega)
  · rw [if_neg h, if_neg h, Bool.eq_false_iff.mpr h]
def excOf (L : List Int) : Int := if deg L = true then exc L else 0
theorem excOfI (L : List Int) (k : Nat) (hk : 3000 < k) : impl_ExcessOf.f k L = some (excOf L, deg L) := by
  unfold impl_ExcessOf.f excOf
  rw [isDeg_eq L k (by omega), Option.bind_some]
  by_cases h : deg L = true
  · obtain ⟨⟨h1, h2⟩, h3⟩ := (deg_iff L).mp h
    rw [if_pos h, if_pos h, h, excI L h3 (by omega) k (by omega)]; rfl
  · rw [if_neg h, if_neg h, Bool.eq_false_iff.mpr h]
theorem isFor (L : List Int) (h : deg L = true) (k : Nat) (hk : 3000 < k) : impl_IsForest.f k L = some (fst L, true) := by
  unfold impl_IsForest.f
  rw [isDeg_eq L k (by omega), Option.bind_some, if_pos h, foI L h k (by omega)]; rfl
theorem gl_get (p : Nat → Bool) (n t : Nat) (h : t < (gl p n).length) : ∃ j : Nat, (gl p n).getD t 0 = (j : Int) ∧ j < n ∧ p j = true := by
  rw [getD_lt _ t h]
  have hm := List.getElem_mem h
  unfold gl at hm
  rw [List.mem_map] at hm
  obtain ⟨j, h1, h2⟩ := hm
  rw [List.mem_filter, List.mem_range] at h1
  exact ⟨j, h2.symm, h1.1, h1.2⟩
theorem same_self (L : List Int) (hl : L.length ≤ 1000) (k : Nat) (hk : 1000 < k) : laws_xSame.f k L L = some true := by
  unfold laws_xSame.f
  rw [if_pos rfl]
  exact (loop_range (fun k (_ : Unit) i => laws_xSame.l0 k L L (L.length : Int) i) L.length (fun _ _ => ()) (fun _ => true) (fun _ _ => True)
    (fun k i _ hi _ => by
      refine ⟨?_, trivial⟩
      have e3 : wrap64 ((i : Int) + 1) = ((i + 1 : Nat) : Int) := by rw [w64 (by omega) (by omega)]; omega
      simp only [laws_xSame.l0, e3, if_true]
      repeat rw [if_pos (by omega)])
    (fun k _ _ => by simp only [laws_xSame.l0]; rw [if_neg (by omega)]) k () trivial (by omega)).1
theorem nb (b : Bool) : ¬ (b != b) = true := by cases b <;> exact Bool.false_ne_true
theorem u8_b {n : Int} (h : (Lit.int .u8 n).wf = true) : 0 ≤ n ∧ n ≤ 255 := by
  simp [Lit.wf, IntKind.min, IntKind.max, IntKind.signed, IntKind.bits] at h
  omega
theorem big_some (l0 l1 : List Int) : ∃ b, laws_big.f l0 l1 = some b := by
  unfold laws_big.f
  by_cases h : (l0.length : Int) > 1048576
  · exact ⟨true, if_pos h⟩
  · exact ⟨_, if_neg h⟩

/-! ### The draws tell something -/
def TotS {α : Type} (F : Int → Int → Option (α × Int × Int)) (c : Int) (p : α → Prop) : Prop := ∀ s1 s2 : Int, 0 ≤ s1 → s1 ≤ 1000000 → ∃ r t1 t2, F s1 s2 = some (r, t1, t2) ∧ p r ∧ s1 ≤ t1 ∧ t1 ≤ s1 + c
theorem u64_b (y : Int) : 0 ≤ IntKind.u64.wrap y ∧ IntKind.u64.wrap y < 18446744073709551616 := by
  simp [IntKind.wrap, IntKind.bits, IntKind.signed]
  omega
theorem byte_b (y : Int) (h : 0 ≤ y ∧ y < 18446744073709551616) : 0 ≤ wrap64 (bits .and .u64 (y / 1099511627776) 255) ∧ wrap64 (bits .and .u64 (y / 1099511627776) 255) ≤ 255 := by
  have e : bits .and .u64 (y / 1099511627776) 255 = (y / 1099511627776) % 256 := bits_mask .u64 24 (by decide) (fun n a b => by
    simp [IntKind.wrap, IntKind.bits, IntKind.signed]
    omega) 8 (by decide) _ (by omega) (by omega)
  rw [e, w64 (by omega) (by omega)]
  omega
theorem suc_w (i : Nat) (h : i ≤ 1000) : wrap64 ((i : Int) + 1) = ((i + 1 : Nat) : Int) := by rw [w64 (by omega) (by omega)]; omega
theorem rotS2 (L : List Int) (hl : L.length ≤ 150) (j : Nat) (hj : j ≤ L.length) : spec_cyRotate.f L (j : Int) = some (rot L j) := by
  unfold spec_cyRotate.f spec_l1Own.f
  rw [if_pos (Int.natCast_nonneg j), if_pos (by omega), Int.toNat_natCast]
  simp only [Option.bind_some, List.nil_append, List.length_nil]
  rw [if_pos (by rw [List.length_drop]; omega), Option.bind_some, if_pos (by rw [List.length_drop, List.length_take]; omega)]
  rfl
section
variable (l : List Int) (hl : ∀ x ∈ l, 0 ≤ x ∧ x ≤ 255)
include hl
theorem next_tot : TotS (fun s1 s2 => spec_l1Cur_next.f l s1 s2) 1 (fun r => 0 ≤ r ∧ r ≤ 255) := by
  intro s1 s2 h0 h1
  have e1 : wrap64 (s1 + 1) = s1 + 1 := w64 (by omega) (by omega)
  unfold spec_l1Cur_next.f
  simp only [e1]
  by_cases c : s1 < (l.length : Int)
  · rw [if_pos c, if_pos h0]
    obtain ⟨i, rfl⟩ := Int.eq_ofNat_of_zero_le h0
    have hi : i < l.length := by omega
    have hx := hl l[i] (List.getElem_mem hi)
    have e2 : rd l (i : Int) = l[i] := rd_nat l i hi
    have e3 : wrap64 l[i] = l[i] := w64 (by omega) (by omega)
    rw [if_pos (show (i : Int) + 1 ≤ (l.length : Int) by omega), e2, e3]
    exact ⟨_, _, _, rfl, hx, by omega, by omega⟩
  · rw [if_neg c]
    have c2 : ¬ s1 + 1 ≤ (l.length : Int) := by omega
    rw [if_neg c2]
    refine ⟨_, _, _, rfl, ?_, by omega, by omega⟩
    have hw := u64_b (IntKind.u64.wrap (IntKind.u64.wrap (s2 * 6364136223846793005)) + 1442695040888963407)
    generalize IntKind.u64.wrap (IntKind.u64.wrap (IntKind.u64.wrap (s2 * 6364136223846793005)) + 1442695040888963407) = y at hw ⊢
    exact byte_b y hw
theorem pick_tot (n : Int) (hn : n ≤ 200) : TotS (fun s1 s2 => spec_l1Cur_pick.f l s1 s2 n) 1 (fun r => 0 ≤ r ∧ (0 < n → r < n)) := by
  intro s1 s2 h0 h1
  show ∃ r t1 t2, spec_l1Cur_pick.f l s1 s2 n = some (r, t1, t2) ∧ _
  unfold spec_l1Cur_pick.f
  by_cases c : n ≤ 1
  · rw [if_pos c]
    exact ⟨0, s1, s2, rfl, ⟨Int.le_refl _, fun h => by omega⟩, Int.le_refl _, by omega⟩
  · obtain ⟨r, t1, t2, e, ⟨p0, p1⟩, q0, q1⟩ := next_tot l hl s1 s2 h0 h1
    rw [if_neg c, show spec_l1Cur_next.f l s1 s2 = _ from e]
    simp only [Option.bind_some]
    rw [if_neg (show ¬ n > 200 by omega), if_neg (show ¬ n = 0 by omega)]
    refine ⟨_, _, _, rfl, ⟨?_, fun _ => ?_⟩, q0, q1⟩
    · rw [Int.tmod_eq_emod_of_nonneg p0]; exact Int.emod_nonneg _ (by omega)
    · rw [Int.tmod_eq_emod_of_nonneg p0]; exact Int.emod_lt_of_pos _ (by omega)
theorem one_tot (n : Int) (hn : n ≤ 200) : TotS (fun s1 s2 => spec_l1Cur_one.f l s1 s2 n) 1 (fun _ => True) := by
  intro s1 s2 h0 h1
  obtain ⟨r, t1, t2, e, _, q0, q1⟩ := pick_tot l hl n hn s1 s2 h0 h1
  refine ⟨(r == 0), t1, t2, ?_, trivial, q0, q1⟩
  show spec_l1Cur_one.f l s1 s2 n = _
  unfold spec_l1Cur_one.f
  rw [show spec_l1Cur_pick.f l s1 s2 n = _ from e]; rfl
theorem among_tot (xs : List Int) (h : 0 < xs.length) (h2 : xs.length ≤ 200) : TotS (fun s1 s2 => spec_l1Cur_among.f l s1 s2 xs) 1 (fun _ => True) := by
  intro s1 s2 h0 h1
  obtain ⟨r, t1, t2, e, ⟨p0, p1⟩, q0, q1⟩ := pick_tot l hl (xs.length : Int) (by omega) s1 s2 h0 h1
  refine ⟨rd xs r, t1, t2, ?_, trivial, q0, q1⟩
  show spec_l1Cur_among.f l s1 s2 xs = _
  unfold spec_l1Cur_among.f
  rw [show spec_l1Cur_pick.f l s1 s2 (xs.length : Int) = _ from e]
  simp only [Option.bind_some]
  rw [if_pos p0, if_pos (p1 (by omega))]
theorem deg1_tot (d : Nat) : ∀ (x6 : List Int) (s1 s2 : Int), d ≤ 100 → 17 ≤ x6.length + d → x6.length + d ≤ 150 → 0 ≤ s1 → s1 ≤ 900000 - d → ∃ r t1 t2, (∀ k, d < k → spec_l1Cur_degrees.l1 k x6 l s1 s2 = some (r, t1, t2)) ∧ r.length ≤ 150 ∧ s1 ≤ t1 ∧ t1 ≤ s1 + d + 1 := by
  induction d with
  | zero =>
    intro x6 s1 s2 _ hx hx2 h0 h1
    obtain ⟨r, t1, t2, e1, ⟨p0, p1⟩, q0, q1⟩ := pick_tot l hl 2 (by omega) s1 s2 h0 (by omega)
    have p1 := p1 (by omega)
    have ew : wrap64 (16 + r) = 16 + r := w64 (by omega) (by omega)
    refine ⟨x6, t1, t2, fun k hk => ?_, by omega, by omega, by omega⟩
    obtain ⟨k, rfl⟩ : ∃ m, k = m + 1 := ⟨k - 1, by omega⟩
    rw [spec_l1Cur_degrees.l1, show spec_l1Cur_pick.f l s1 s2 2 = _ from e1, Option.bind_some]
    show (if (x6.length : Int) < wrap64 (16 + r) then _ else _) = _
    rw [ew, if_neg (by omega)]
  | succ d ih =>
    intro x6 s1 s2 hd hx hx2 h0 h1
    obtain ⟨r, t1, t2, e1, ⟨p0, p1⟩, q0, q1⟩ := pick_tot l hl 2 (by omega) s1 s2 h0 (by omega)
    have p1 := p1 (by omega)
    have ew : wrap64 (16 + r) = 16 + r := w64 (by omega) (by omega)
    by_cases c : (x6.length : Int) < 16 + r
    · obtain ⟨r', u1, u2, f, z, k0, k1⟩ := ih (x6 ++ [0]) t1 t2 (by omega) (by rw [List.length_append, List.length_singleton]; omega) (by rw [List.length_append, List.length_singleton]; omega) (by omega) (by omega)
      refine ⟨r', u1, u2, fun k hk => ?_, z, by omega, by omega⟩
      obtain ⟨k, rfl⟩ : ∃ m, k = m + 1 := ⟨k - 1, by omega⟩
      rw [spec_l1Cur_degrees.l1, show spec_l1Cur_pick.f l s1 s2 2 = _ from e1, Option.bind_some]
      show (if (x6.length : Int) < wrap64 (16 + r) then (if x6.length < 17592186044416 then spec_l1Cur_degrees.l1 k (x6 ++ [0]) l t1 t2 else none) else _) = _
      rw [ew, if_pos c, if_pos (by omega)]
      exact f k (by omega)
    · refine ⟨x6, t1, t2, fun k hk => ?_, by omega, by omega, by omega⟩
      obtain ⟨k, rfl⟩ : ∃ m, k = m + 1 := ⟨k - 1, by omega⟩
      rw [spec_l1Cur_degrees.l1, show spec_l1Cur_pick.f l s1 s2 2 = _ from e1, Option.bind_some]
      show (if (x6.length : Int) < wrap64 (16 + r) then _ else _) = _
      rw [ew, if_neg c]
theorem deg0_tot (n : Nat) (hn : 1 ≤ n ∧ n ≤ 10) (m : Nat) : ∀ (x6 : List Int) (s1 s2 : Int), m ≤ 100 → x6.length = n → 0 ≤ s1 → s1 ≤ 800000 - m → ∃ r t1 t2, (∀ k, m + 50 < k → spec_l1Cur_degrees.l0 k (n : Int) x6 (m : Int) l s1 s2 = some (r, t1, t2)) ∧ r.length ≤ 150 ∧ s1 ≤ t1 ∧ t1 ≤ s1 + m + 60 := by
  induction m with
  | zero =>
    intro x6 s1 s2 _ hx h0 h1
    obtain ⟨r, t1, t2, e1, _, q0, q1⟩ := pick_tot l hl 16 (by omega) s1 s2 h0 (by omega)
    by_cases c0 : r = 0
    · obtain ⟨i, u1, u2, e2, ⟨p0, p1⟩, q2, q3⟩ := pick_tot l hl (n : Int) (by omega) t1 t2 (by omega) (by omega)
      have p1 := p1 (by omega)
      obtain ⟨v, v1, v2, e3, _, q4, q5⟩ := among_tot l hl [(-1), 16, 17, 4611686018427387904] (by decide) (by decide) u1 u2 (by omega) (by omega)
      refine ⟨x6.set i.toNat v, v1, v2, fun k hk => ?_, by rw [List.length_set]; omega, by omega, by omega⟩
      obtain ⟨k, rfl⟩ : ∃ m, k = m + 1 := ⟨k - 1, by omega⟩
      simp only [spec_l1Cur_degrees.l0]
      rw [if_neg (by decide), show spec_l1Cur_pick.f l s1 s2 16 = _ from e1]
      simp only [Option.bind_some]
      rw [if_pos c0, show spec_l1Cur_pick.f l t1 t2 (n : Int) = _ from e2]
      simp only [Option.bind_some]
      rw [show spec_l1Cur_among.f l u1 u2 [(-1), 16, 17, 4611686018427387904] = _ from e3]
      simp only [Option.bind_some]
      rw [if_pos p0, if_pos (by omega)]
    · by_cases c1 : r = 1
      · obtain ⟨r', u1, u2, f, z, k0, k1⟩ := deg1_tot l hl 17 x6 t1 t2 (by omega) (by omega) (by omega) (by omega) (by omega)
        refine ⟨r', u1, u2, fun k hk => ?_, z, by omega, by omega⟩
        obtain ⟨k, rfl⟩ : ∃ m, k = m + 1 := ⟨k - 1, by omega⟩
        simp only [spec_l1Cur_degrees.l0]
        rw [if_neg (by decide), show spec_l1Cur_pick.f l s1 s2 16 = _ from e1]
        simp only [Option.bind_some]
        rw [if_neg c0, if_pos c1]
        exact f k (by omega)
      · by_cases c2 : r = 2
        · refine ⟨[], t1, t2, fun k hk => ?_, by simp, by omega, by omega⟩
          obtain ⟨k, rfl⟩ : ∃ m, k = m + 1 := ⟨k - 1, by omega⟩
          simp only [spec_l1Cur_degrees.l0]
          rw [if_neg (by decide), show spec_l1Cur_pick.f l s1 s2 16 = _ from e1]
          simp only [Option.bind_some]
          rw [if_neg c0, if_neg c1, if_pos c2]
        · refine ⟨x6, t1, t2, fun k hk => ?_, by omega, by omega, by omega⟩
          obtain ⟨k, rfl⟩ : ∃ m, k = m + 1 := ⟨k - 1, by omega⟩
          simp only [spec_l1Cur_degrees.l0]
          rw [if_neg (by decide), show spec_l1Cur_pick.f l s1 s2 16 = _ from e1]
          simp only [Option.bind_some]
          rw [if_neg c0, if_neg c1, if_neg c2]
  | succ m ih =>
    intro x6 s1 s2 hm hx h0 h1
    obtain ⟨i, t1, t2, e1, ⟨p0, p1⟩, q0, q1⟩ := pick_tot l hl (n : Int) (by omega) s1 s2 h0 (by omega)
    have p1 := p1 (by omega)
    have ew : wrap64 (((m + 1 : Nat) : Int) - 1) = (m : Int) := by rw [w64 (by omega) (by omega)]; omega
    obtain ⟨r', u1, u2, f, z, k0, k1⟩ := ih (x6.set i.toNat (wrap64 ((rd x6 i) + 1))) t1 t2 (by omega) (by rw [List.length_set]; exact hx) (by omega) (by omega)
    refine ⟨r', u1, u2, fun k hk => ?_, z, by omega, by omega⟩
    obtain ⟨k, rfl⟩ : ∃ m, k = m + 1 := ⟨k - 1, by omega⟩
    simp only [spec_l1Cur_degrees.l0]
    rw [if_pos (by omega), show spec_l1Cur_pick.f l s1 s2 (n : Int) = _ from e1]
    simp only [Option.bind_some]
    rw [if_pos p0, if_pos (by omega), ew]
    exact f k (by omega)
theorem degf_tot (a0 : Int) (ha : 1 ≤ a0 ∧ a0 ≤ 10) (s1 s2 : Int) (h0 : 0 ≤ s1) (h1 : s1 ≤ 1000) : ∃ r t1 t2, (∀ k, 200 < k → spec_l1Cur_degrees.f k l s1 s2 a0 = some (r, t1, t2)) ∧ r.length ≤ 150 ∧ 0 ≤ t1 ∧ t1 ≤ s1 + 200 := by
  obtain ⟨a, t1, t2, e1, ⟨p0, p1⟩, q0, q1⟩ := pick_tot l hl a0 (by omega) s1 s2 h0 (by omega)
  have p1 := p1 (by omega)
  have ew : wrap64 (1 + a) = 1 + a := w64 (by omega) (by omega)
  obtain ⟨n, hn⟩ : ∃ n : Nat, 1 + a = (n : Int) := ⟨(1 + a).toNat, by omega⟩
  obtain ⟨b, u1, u2, e2, ⟨p2, p3⟩, q2, q3⟩ := pick_tot l hl (n : Int) (by omega) t1 t2 (by omega) (by omega)
  have p3 := p3 (by omega)
  obtain ⟨m, rfl⟩ := Int.eq_ofNat_of_zero_le p2
  obtain ⟨r, v1, v2, f, z, k0, k1⟩ := deg0_tot l hl n (by omega) m (List.replicate n 0) u1 u2 (by omega) (by simp) (by omega) (by omega)
  refine ⟨r, v1, v2, fun k hk => ?_, z, by omega, by omega⟩
  unfold spec_l1Cur_degrees.f
  rw [show spec_l1Cur_pick.f l s1 s2 a0 = _ from e1]
  simp only [Option.bind_some]
  rw [ew, hn, if_pos (Int.natCast_nonneg n), Int.toNat_natCast, if_pos (by omega), show spec_l1Cur_pick.f l t1 t2 (n : Int) = _ from e2]
  simp only [Option.bind_some]
  exact f k (by omega)
theorem fj0_tot (L G : List Int) (hL : L.length ≤ 150) (hG : ∀ t, t < G.length → ∃ j : Nat, G.getD t 0 = (j : Int) ∧ j ≤ L.length) (hg : G.length ≤ 150) (b : Bool) (hb : b = true → 0 < G.length) (s1 s2 : Int) (h0 : 0 ≤ s1) (h1 : s1 ≤ 10000) :
    ∃ r t1 t2, (∀ k, 10 < k → spec_l1Cur_forest.j0 k L G b l s1 s2 = some (r, t1, t2)) ∧ r.length ≤ 150 := by
  cases b with
  | false =>
    have _u := hl
    refine ⟨L, s1, s2, fun k hk => ?_, hL⟩
    obtain ⟨k, rfl⟩ : ∃ m, k = m + 1 := ⟨k - 1, by omega⟩
    rw [spec_l1Cur_forest.j0, if_neg Bool.false_ne_true]
  | true =>
    have hp := hb rfl
    obtain ⟨i, t1, t2, e1, ⟨p0, p1⟩, q0, q1⟩ := pick_tot l hl (G.length : Int) (by omega) s1 s2 h0 (by omega)
    have p1 := p1 (by omega)
    obtain ⟨n, rfl⟩ := Int.eq_ofNat_of_zero_le p0
    obtain ⟨j, g1, g2⟩ := hG n (by omega)
    refine ⟨rot L j, t1, t2, fun k hk => ?_, by rw [rot_len]; exact hL⟩
    obtain ⟨k, rfl⟩ : ∃ m, k = m + 1 := ⟨k - 1, by omega⟩
    have er : spec_cyRotate.f L (rd G (n : Int)) = some (rot L j) := by
      rw [show rd G (n : Int) = (j : Int) by rw [rdg]; exact g1]
      exact rotS2 L hL j g2
    rw [spec_l1Cur_forest.j0, if_pos rfl, show spec_l1Cur_pick.f l s1 s2 (G.length : Int) = _ from e1, Option.bind_some]
    show (if 0 ≤ (n : Int) then (if (n : Int) < (G.length : Int) then ((spec_cyRotate.f L (rd G (n : Int))).bind _) else none) else none) = _
    rw [if_pos p0, if_pos p1, er, Option.bind_some]
theorem trees_tot : ∃ L : List Int, L.length ≤ 150 ∧ ∀ k, 4000 < k → spec_DrawTreesOf.f k l = some L := by
  obtain ⟨L, t1, t2, f, z, y1, y2⟩ := degf_tot l hl 10 (by omega) 0 0 (by omega) (by omega)
  have hG : ∀ t, t < (good L).length → ∃ j : Nat, (good L).getD t 0 = (j : Int) ∧ j ≤ L.length := by
    intro t ht
    unfold good at ht ⊢
    by_cases c : deg L = true
    · rw [if_pos c] at ht ⊢
      obtain ⟨j, g1, g2, _⟩ := gl_get _ _ t ht
      exact ⟨j, g1, by omega⟩
    · rw [if_neg c] at ht; simp at ht
  have hg : (good L).length ≤ 150 := by
    unfold good
    by_cases c : deg L = true
    · rw [if_pos c]; exact Nat.le_trans (gl_le _ _) z
    · rw [if_neg c]; simp
  have fin : ∀ (F : Nat → Option (List Int × Int × Int)) (r : List Int) (u1 u2 : Int), (∀ k, 4000 < k → F k = some (r, u1, u2)) → (∀ k, spec_l1Cur_forest.f k l 0 0 10 = F k) → ∀ k, 4000 < k → spec_DrawTreesOf.f k l = some r := by
    intro F r u1 u2 hF hE k hk
    unfold spec_DrawTreesOf.f spec_DrawIsForest.f
    rw [hE, hF k hk]; rfl
  by_cases c : deg L = true
  · by_cases c2 : 0 < (good L).length
    · obtain ⟨b, u1, u2, e1, _, q0, q1⟩ := one_tot l hl 6 (by omega) t1 t2 y1 (by omega)
      obtain ⟨r, v1, v2, g, z2⟩ := fj0_tot l hl L (good L) z hG hg (!b) (fun _ => c2) u1 u2 (by omega) (by omega)
      refine ⟨r, z2, fun k hk => ?_⟩
      unfold spec_DrawTreesOf.f spec_DrawIsForest.f spec_l1Cur_forest.f
      rw [f k (by omega), Option.bind_some]
      show (((((spec_GoodRotations.f k L).bind _).bind _)).bind _) = _
      rw [goodS L k (by omega), Option.bind_some]
      show ((((if deg L = true then (if ((good L).length : Int) > 0 then ((spec_l1Cur_one.f l t1 t2 6).bind _) else _) else _) : Option (List Int × Int × Int)).bind _).bind _) = _
      rw [if_pos c, if_pos (by omega), show spec_l1Cur_one.f l t1 t2 6 = _ from e1, Option.bind_some]
      show (((spec_l1Cur_forest.j0 k L (good L) (!b) l u1 u2).bind _).bind _) = _
      rw [g k (by omega)]; rfl
    · obtain ⟨r, v1, v2, g, z2⟩ := fj0_tot l hl L (good L) z hG hg false (fun h => by cases h) t1 t2 (by omega) (by omega)
      refine ⟨r, z2, fun k hk => ?_⟩
      unfold spec_DrawTreesOf.f spec_DrawIsForest.f spec_l1Cur_forest.f
      rw [f k (by omega), Option.bind_some]
      show (((((spec_GoodRotations.f k L).bind _).bind _)).bind _) = _
      rw [goodS L k (by omega), Option.bind_some]
      show ((((if deg L = true then (if ((good L).length : Int) > 0 then _ else (spec_l1Cur_forest.j0 k L (good L) false l t1 t2)) else _) : Option (List Int × Int × Int)).bind _).bind _) = _
      rw [if_pos c, if_neg (by omega), g k (by omega)]; rfl
  · obtain ⟨r, v1, v2, g, z2⟩ := fj0_tot l hl L (good L) z hG hg false (fun h => by cases h) t1 t2 (by omega) (by omega)
    refine ⟨r, z2, fun k hk => ?_⟩
    unfold spec_DrawTreesOf.f spec_DrawIsForest.f spec_l1Cur_forest.f
    rw [f k (by omega), Option.bind_some]
    show (((((spec_GoodRotations.f k L).bind _).bind _)).bind _) = _
    rw [goodS L k (by omega), Option.bind_some]
    show ((((if deg L = true then _ else (spec_l1Cur_forest.j0 k L (good L) false l t1 t2)) : Option (List Int × Int × Int)).bind _).bind _) = _
    rw [if_neg c, g k (by omega)]; rfl
theorem cl1_tot (X : List Int) (n i : Int) (x : Int) (hx : 0 ≤ x ∧ x ≤ 9) (s1 s2 : Int) (B : Nat) (hG : ∀ Y : List Int, 1 ≤ Y.length → Y.length ≤ 10 → ∃ r t1 t2, (∀ k, B < k → spec_l1Cur_counts.l0 k Y X n (wrap64 (i + 1)) l s1 s2 = some (r, t1, t2)) ∧ r.length ≤ 20) (d : Nat) :
    ∀ Y : List Int, 1 ≤ Y.length → Y.length ≤ 10 → 10 ≤ Y.length + d → ∃ r t1 t2, (∀ k, B + 1 + d < k → spec_l1Cur_counts.l1 k Y x X n i l s1 s2 = some (r, t1, t2)) ∧ r.length ≤ 20 := by
  have _u := hl
  have stop : ∀ (d : Nat) (Y : List Int), 1 ≤ Y.length → Y.length ≤ 10 → x < (Y.length : Int) → ∃ r t1 t2, (∀ k, B + 1 + d < k → spec_l1Cur_counts.l1 k Y x X n i l s1 s2 = some (r, t1, t2)) ∧ r.length ≤ 20 := by
    intro d Y h1 h2 h3
    obtain ⟨r, t1, t2, f, z⟩ := hG (Y.set x.toNat (wrap64 ((rd Y x) + 1))) (by rw [List.length_set]; exact h1) (by rw [List.length_set]; exact h2)
    refine ⟨r, t1, t2, fun k hk => ?_, z⟩
    obtain ⟨k, rfl⟩ : ∃ m, k = m + 1 := ⟨k - 1, by omega⟩
    rw [spec_l1Cur_counts.l1, if_neg (by omega), if_pos hx.1, if_pos h3]
    exact f k (by omega)
  induction d with
  | zero => exact fun Y h1 h2 h3 => stop 0 Y h1 h2 (by omega)
  | succ d ih =>
    intro Y h1 h2 h3
    by_cases c : (Y.length : Int) ≤ x
    · obtain ⟨r, t1, t2, f, z⟩ := ih (Y ++ [0]) (by simp) (by rw [List.length_append]; simp; omega) (by rw [List.length_append]; simp; omega)
      refine ⟨r, t1, t2, fun k hk => ?_, z⟩
      obtain ⟨k, rfl⟩ : ∃ m, k = m + 1 := ⟨k - 1, by omega⟩
      rw [spec_l1Cur_counts.l1, if_pos c, if_pos (by omega)]
      exact f k (by omega)
    · exact stop (d + 1) Y h1 h2 (by omega)
theorem cl0_tot (X : List Int) (hX : X.length ≤ 150) (s1 s2 : Int) (h0 : 0 ≤ s1) (h1 : s1 ≤ 10000) (d : Nat) : ∀ (i : Nat) (Y : List Int), i + d = X.length → 1 ≤ Y.length → Y.length ≤ 10 →
    ∃ r t1 t2, (∀ k, 20 * d + 5 < k → spec_l1Cur_counts.l0 k Y X (X.length : Int) (i : Int) l s1 s2 = some (r, t1, t2)) ∧ r.length ≤ 20 := by
  induction d with
  | zero =>
    intro i Y hi y1 y2
    obtain ⟨a, t1, t2, e1, _, q0, q1⟩ := pick_tot l hl 14 (by omega) s1 s2 h0 (by omega)
    by_cases c0 : a = 0
    · obtain ⟨v, u1, u2, e2, _, _, _⟩ := among_tot l hl [(-1), 0, 16, 17, 4611686018427387904] (by decide) (by decide) t1 t2 (by omega) (by omega)
      refine ⟨Y.set (0 : Int).toNat v, u1, u2, fun k hk => ?_, by rw [List.length_set]; omega⟩
      obtain ⟨k, rfl⟩ : ∃ m, k = m + 1 := ⟨k - 1, by omega⟩
      rw [spec_l1Cur_counts.l0, if_neg (by omega), show spec_l1Cur_pick.f l s1 s2 14 = _ from e1, Option.bind_some]
      show (if a = 0 then ((spec_l1Cur_among.f l t1 t2 _).bind _) else _) = _
      rw [if_pos c0, show spec_l1Cur_among.f l t1 t2 _ = _ from e2, Option.bind_some, if_pos (by omega)]
    · by_cases c1 : a = 1
      · refine ⟨[], t1, t2, fun k hk => ?_, by simp⟩
        obtain ⟨k, rfl⟩ : ∃ m, k = m + 1 := ⟨k - 1, by omega⟩
        rw [spec_l1Cur_counts.l0, if_neg (by omega), show spec_l1Cur_pick.f l s1 s2 14 = _ from e1, Option.bind_some]
        show (if a = 0 then _ else (if a = 1 then _ else _)) = _
        rw [if_neg c0, if_pos c1]
      · by_cases c2 : a = 2
        · refine ⟨Y ++ [0, 0], t1, t2, fun k hk => ?_, by rw [List.length_append]; simp; omega⟩
          obtain ⟨k, rfl⟩ : ∃ m, k = m + 1 := ⟨k - 1, by omega⟩
          rw [spec_l1Cur_counts.l0, if_neg (by omega), show spec_l1Cur_pick.f l s1 s2 14 = _ from e1, Option.bind_some]
          show (if a = 0 then _ else (if a = 1 then _ else (if a = 2 then _ else _))) = _
          rw [if_neg c0, if_neg c1, if_pos c2, Option.bind_some, if_pos (by simp; omega)]
        · refine ⟨Y, t1, t2, fun k hk => ?_, by omega⟩
          obtain ⟨k, rfl⟩ : ∃ m, k = m + 1 := ⟨k - 1, by omega⟩
          rw [spec_l1Cur_counts.l0, if_neg (by omega), show spec_l1Cur_pick.f l s1 s2 14 = _ from e1, Option.bind_some]
          show (if a = 0 then _ else (if a = 1 then _ else (if a = 2 then _ else _))) = _
          rw [if_neg c0, if_neg c1, if_neg c2]
  | succ d ih =>
    intro i Y hi y1 y2
    have e1 := rw_suc i (by omega)
    by_cases c : (decide (0 ≤ rd X (i : Int)) && decide (rd X (i : Int) ≤ 9)) = true
    · have cc : 0 ≤ rd X (i : Int) ∧ rd X (i : Int) ≤ 9 := by simpa using c
      obtain ⟨r, t1, t2, f, z⟩ := cl1_tot l hl X (X.length : Int) (i : Int) (rd X (i : Int)) cc s1 s2 (20 * d + 5) (fun Y' z1 z2 => by rw [e1]; exact ih (i + 1) Y' (by omega) z1 z2) 9 Y y1 y2 (by omega)
      refine ⟨r, t1, t2, fun k hk => ?_, z⟩
      obtain ⟨k, rfl⟩ : ∃ m, k = m + 1 := ⟨k - 1, by omega⟩
      rw [spec_l1Cur_counts.l0, if_pos (by omega), if_pos (by omega), if_pos (by omega), l1In_d, Option.bind_some, if_pos c]
      exact f k (by omega)
    · obtain ⟨r, t1, t2, f, z⟩ := ih (i + 1) Y (by omega) y1 y2
      refine ⟨r, t1, t2, fun k hk => ?_, z⟩
      obtain ⟨k, rfl⟩ : ∃ m, k = m + 1 := ⟨k - 1, by omega⟩
      rw [spec_l1Cur_counts.l0, if_pos (by omega), if_pos (by omega), if_pos (by omega), l1In_d, Option.bind_some, if_neg c, e1]
      exact f k (by omega)
theorem counts_tot : ∃ L : List Int, L.length ≤ 20 ∧ ∀ k, 4000 < k → spec_DrawCountForests.f k l = some L := by
  obtain ⟨X, t1, t2, f, z, y1, y2⟩ := degf_tot l hl 8 (by omega) 0 0 (by omega) (by omega)
  obtain ⟨r, u1, u2, g, z2⟩ := cl0_tot l hl X z t1 t2 (by omega) (by omega) X.length 0 [0] (by omega) (by simp) (by simp)
  refine ⟨r, z2, fun k hk => ?_⟩
  unfold spec_DrawCountForests.f spec_l1Cur_counts.f
  rw [f k (by omega), Option.bind_some]
  show ((spec_l1Cur_counts.l0 k [0] X (X.length : Int) 0 l t1 t2).bind _) = _
  have g2 : spec_l1Cur_counts.l0 k [0] X (X.length : Int) 0 l t1 t2 = _ := g k (by omega)
  rw [g2]; rfl
end

/-! ### Forests: the first tree's children, the other trees -/
inductive F where
  | nil : F
  | cons (c r : F) : F
namespace F
def len : F → Nat
  | nil => 0
  | cons _ r => len r + 1
def size : F → Nat
  | nil => 0
  | cons c r => size c + size r + 1
/-- The degrees, each node ahead of its children. -/
def pre : F → List Int
  | nil => []
  | cons c r => (len c : Int) :: (pre c ++ pre r)
/-- The trees. -/
def trs : F → List (List Int)
  | nil => []
  | cons c r => ((len c : Int) :: pre c) :: trs r
def app : F → F → F
  | nil, g => g
  | cons c r, g => cons c (app r g)
def mir : F → F
  | nil => nil
  | cons c r => app (mir r) (cons (mir c) nil)
/-- The depths. -/
def dep (d : Int) : F → List Int
  | nil => []
  | cons c r => d :: (dep (d + 1) c ++ dep d r)
/-- The parents: `p` is the parent of the trees, `i` the first node's index. -/
def par (p : Int) (i : Nat) : F → List Int
  | nil => []
  | cons c r => p :: (par (i : Int) (i + 1) c ++ par p (i + 1 + size c) r)
theorem pre_len : ∀ g : F, (pre g).length = size g
  | nil => rfl
  | cons c r => by simp [pre, size, pre_len c, pre_len r]
theorem dep_len : ∀ (g : F) (d : Int), (dep d g).length = size g
  | nil, _ => rfl
  | cons c r, d => by simp [dep, size, dep_len c, dep_len r]
theorem par_len : ∀ (g : F) (p : Int) (i : Nat), (par p i g).length = size g
  | nil, _, _ => rfl
  | cons c r, p, i => by simp [par, size, par_len c, par_len r]
theorem len_size : ∀ g : F, len g ≤ size g
  | nil => Nat.le_refl _
  | cons c r => by have := len_size r; simp only [len, size]; omega
theorem app_len : ∀ f g : F, len (app f g) = len f + len g
  | nil, g => by simp [app, len]
  | cons c r, g => by simp only [app, len, app_len r g]; omega
theorem app_pre : ∀ f g : F, pre (app f g) = pre f ++ pre g
  | nil, g => rfl
  | cons c r, g => by simp [app, pre, app_pre r g]
theorem app_nil : ∀ f : F, app f nil = f
  | nil => rfl
  | cons c r => by simp [app, app_nil r]
theorem app_app : ∀ f g h : F, app (app f g) h = app f (app g h)
  | nil, _, _ => rfl
  | cons c r, g, h => by simp [app, app_app r g h]
theorem mir_app : ∀ f g : F, mir (app f g) = app (mir g) (mir f)
  | nil, g => by simp [app, mir, app_nil]
  | cons c r, g => by simp [app, mir, mir_app r g, app_app]
theorem mir_mir : ∀ f : F, mir (mir f) = f
  | nil => rfl
  | cons c r => by simp [mir, mir_app, mir_mir c, mir_mir r, app]
theorem mir_len : ∀ f : F, len (mir f) = len f
  | nil => rfl
  | cons c r => by simp [mir, app_len, mir_len r, len]
theorem pre_mir : ∀ c r : F, pre (mir (cons c r)) = pre (mir r) ++ ((len c : Int) :: pre (mir c))
  | c, r => by simp [mir, app_pre, pre, mir_len]
theorem mir_size (f : F) : size (mir f) = size f := by
  have ha : ∀ f g : F, size (app f g) = size f + size g := fun f g => by rw [← pre_len, app_pre, List.length_append, pre_len, pre_len]
  induction f with
  | nil => rfl
  | cons c r h1 h2 => simp only [mir, ha, size, h1, h2]; omega
theorem app_dep : ∀ (f g : F) (d : Int), dep d (app f g) = dep d f ++ dep d g
  | nil, _, _ => rfl
  | cons c r, g, d => by simp [app, dep, app_dep r g]
theorem mir_dep : ∀ (f : F) (d : Int), (dep d (mir f)).sum = (dep d f).sum
  | nil, _ => rfl
  | cons c r, d => by
    have h1 := mir_dep c (d + 1); have h2 := mir_dep r d
    simp only [mir, app_dep, dep, List.sum_append, List.sum_cons, List.append_nil, h1, h2]
    omega
theorem mir_nil (f : F) (h : f ≠ nil) : mir f ≠ nil := fun e => h (by rw [← mir_mir f, e]; rfl)
theorem split : ∀ (x : Nat) (g : F), x ≤ len g → ∃ k r, g = app k r ∧ len k = x
  | 0, g, _ => ⟨nil, g, rfl, rfl⟩
  | x + 1, nil, h => absurd h (by simp [len])
  | x + 1, cons c r, h => by
    obtain ⟨k, r', e, h1⟩ := split x r (by simp only [len] at h; omega)
    exact ⟨cons c k, r', by rw [e]; rfl, by simp only [len, h1]⟩
theorem pre_nn : ∀ (g : F) (x : Int), x ∈ pre g → 0 ≤ x
  | nil, _, h => absurd h List.not_mem_nil
  | cons c r, x, h => by
    simp only [pre, List.mem_cons, List.mem_append] at h
    rcases h with rfl | h | h
    · exact Int.natCast_nonneg _
    · exact pre_nn c x h
    · exact pre_nn r x h
theorem pre_le : ∀ (g : F) (x : Int), x ∈ pre g → x < size g
  | nil, _, h => absurd h List.not_mem_nil
  | cons c r, x, h => by
    simp only [pre, List.mem_cons, List.mem_append] at h
    have := len_size c
    rcases h with rfl | h | h
    · simp only [size]; omega
    · have := pre_le c x h; simp only [size]; omega
    · have := pre_le r x h; simp only [size]; omega
theorem pre_sum : ∀ g : F, (pre g).sum = (size g : Int) - (len g : Int)
  | nil => rfl
  | cons c r => by
    have h1 := pre_sum c; have h2 := pre_sum r
    simp only [pre, size, len, List.sum_cons, List.sum_append, h1, h2]; omega
theorem ne_nil (g : F) : g ≠ nil ↔ 1 ≤ len g := by cases g <;> simp [len]
theorem ne_nil2 (g : F) : g ≠ nil ↔ 1 ≤ size g := by cases g <;> simp [size]
theorem trs_len : ∀ g : F, (trs g).length = len g
  | nil => rfl
  | cons c r => by simp [trs, len, trs_len r]
theorem trs_flat : ∀ g : F, (trs g).flatten = pre g
  | nil => rfl
  | cons c r => by simp [trs, pre, trs_flat r]
theorem trs_mem : ∀ (g : F) (t : List Int), t ∈ trs g → ∃ c : F, t = pre (cons c nil) ∧ size c < size g
  | nil, _, h => absurd h List.not_mem_nil
  | cons c r, t, h => by
    simp only [trs, List.mem_cons] at h
    rcases h with rfl | h
    · exact ⟨c, by simp [pre], by simp only [size]; omega⟩
    · obtain ⟨c', e, h1⟩ := trs_mem r t h
      exact ⟨c', e, by simp only [size]; omega⟩
/-- Nodes that are yet open: none ahead of the end. -/
def okp (m : Int) : List Int → Prop
  | [] => m = 0
  | x :: L => 1 ≤ m ∧ okp (m - 1 + x) L
theorem parse : ∀ (L : List Int), (∀ x ∈ L, 0 ≤ x) → ∀ m : Int, okp m L → ∃ g : F, L = pre g ∧ (len g : Int) = m
  | [], _, m, h => ⟨nil, rfl, by simp only [okp] at h; rw [h]; rfl⟩
  | x :: L, hL, m, h => by
    simp only [okp] at h
    obtain ⟨h1, h2⟩ := h
    have hx := hL x List.mem_cons_self
    obtain ⟨g, e, hg⟩ := parse L (fun y hy => hL y (List.mem_cons_of_mem _ hy)) _ h2
    obtain ⟨n, rfl⟩ := Int.eq_ofNat_of_zero_le hx
    obtain ⟨k, r, e2, hk⟩ := split n g (by omega)
    refine ⟨cons k r, by rw [e, e2, app_pre]; simp only [pre, hk], ?_⟩
    rw [e2, app_len] at hg
    simp only [len]
    omega
theorem okp_pre : ∀ (g : F) (m : Int) (L : List Int), 0 ≤ m → (okp ((len g : Int) + m) (pre g ++ L) ↔ okp m L)
  | nil, m, L, _ => by simp [len, pre]
  | cons c r, m, L, hm => by
    simp only [pre, List.cons_append, List.append_assoc, okp, len]
    rw [show ((len r + 1 : Nat) : Int) + m - 1 + (len c : Int) = (len c : Int) + ((len r : Int) + m) by omega, okp_pre c _ _ (by omega), okp_pre r _ _ hm]
    exact ⟨fun h => h.2, fun h => ⟨by omega, h⟩⟩
theorem okp_ps : ∀ (L : List Int) (m : Int), okp m L ↔ (L.map fun x => x - 1).sum = -m ∧ ∀ j : Nat, j < L.length → -m < ((L.take j).map fun x => x - 1).sum
  | [], m => by simp [okp]; omega
  | x :: L, m => by
    simp only [okp, okp_ps L, List.map_cons, List.sum_cons, List.length_cons]
    constructor
    · rintro ⟨h1, h2, h3⟩
      refine ⟨by omega, fun j hj => ?_⟩
      cases j with
      | zero => simp; omega
      | succ j => have := h3 j (by omega); simp only [List.take_succ_cons, List.map_cons, List.sum_cons]; omega
    · rintro ⟨h1, h2⟩
      refine ⟨by have := h2 0 (by omega); simp at this; omega, by omega, fun j hj => ?_⟩
      have := h2 (j + 1) (by omega)
      simp only [List.take_succ_cons, List.map_cons, List.sum_cons] at this
      omega
end F

/-! ### Parents, with a stack of nodes that wait for children -/
def pop : List (Nat × Int) → List (Nat × Int)
  | [] => []
  | (p, l) :: s => if l = 0 then pop s else (p, l) :: s
theorem pop_pop : ∀ s, pop (pop s) = pop s
  | [] => rfl
  | (p, l) :: s => by
    by_cases h : l = 0
    · simp only [pop, if_pos h]; exact pop_pop s
    · simp only [pop, if_neg h]
def dec : List (Nat × Int) → Int → List (Nat × Int)
  | [], _ => []
  | (p, l) :: s, n => (p, l - n) :: s
def top : List (Nat × Int) → Int
  | [] => -1
  | (p, _) :: _ => (p : Int)
/-- A stack behind a node with `d` children at the index `i`. -/
def push (i : Nat) (d : Int) (st : List (Nat × Int)) : List (Nat × Int) := (i, d) :: dec (pop st) 1
def goP (i : Nat) : List Int → List (Nat × Int) → List Int
  | [], _ => []
  | d :: ds, st => top (pop st) :: goP (i + 1) ds (push i d st)
theorem dec_dec (s : List (Nat × Int)) (a b : Int) : dec (dec s a) b = dec s (a + b) := by
  cases s with
  | nil => rfl
  | cons q s => obtain ⟨p, l⟩ := q; simp only [dec]; rw [show l - a - b = l - (a + b) by omega]
theorem dec_zero (s : List (Nat × Int)) : dec s 0 = s := by
  cases s with
  | nil => rfl
  | cons q s => obtain ⟨p, l⟩ := q; simp only [dec]; rw [show l - 0 = l by omega]
def room (s : List (Nat × Int)) (n : Int) : Prop := ∀ p l s', s = (p, l) :: s' → n ≤ l
theorem pop_dec (s : List (Nat × Int)) (a : Int) (h : room s (a + 1)) : pop (dec s a) = dec s a := by
  cases s with
  | nil => rfl
  | cons q s => obtain ⟨p, l⟩ := q; have := h p l s rfl; simp only [dec, pop]; rw [if_neg (by omega)]
theorem top_dec (s : List (Nat × Int)) (a : Int) : top (dec s a) = top s := by
  cases s with
  | nil => rfl
  | cons q s => rfl
theorem goP_pre : ∀ (g : F) (i : Nat) (st s : List (Nat × Int)) (R : List Int), pop st = s → room s (F.len g : Int) →
    ∃ st', goP i (F.pre g ++ R) st = F.par (top s) i g ++ goP (i + F.size g) R st' ∧ pop st' = pop (dec s (F.len g : Int))
  | .nil, i, st, s, R, h, _ => ⟨st, by simp [F.pre, F.par, F.size], by
      rw [h, F.len]
      show s = pop (dec s 0)
      rw [dec_zero, ← h, pop_pop]⟩
  | .cons c r, i, st, s, R, h, hr => by
    simp only [F.pre, List.cons_append, List.append_assoc, goP, F.par, F.size, F.len, h]
    have e1 : push i (F.len c : Int) st = (i, (F.len c : Int)) :: dec s 1 := by rw [push, h]
    have ha : ∃ st2, goP (i + 1) (F.pre c ++ (F.pre r ++ R)) (push i (F.len c : Int) st) = F.par (i : Int) (i + 1) c ++ goP (i + 1 + F.size c) (F.pre r ++ R) st2 ∧ pop st2 = pop (dec s 1) := by
      rw [e1]
      cases hc : c with
      | nil => exact ⟨_, rfl, by simp [F.len, pop]⟩
      | cons c1 c2 =>
        rw [← hc]
        have hn : (F.len c : Int) ≠ 0 := by rw [hc]; simp only [F.len]; omega
        obtain ⟨st2, f1, f2⟩ := goP_pre c (i + 1) ((i, (F.len c : Int)) :: dec s 1) ((i, (F.len c : Int)) :: dec s 1) (F.pre r ++ R) (by simp only [pop]; rw [if_neg hn]) (fun p l s' e => by cases e; omega)
        refine ⟨st2, f1, ?_⟩
        rw [f2]
        simp only [dec, pop]
        rw [if_pos (by omega)]
    obtain ⟨st2, f1, f2⟩ := ha
    rw [f1]
    cases hq : r with
    | nil =>
      refine ⟨st2, by simp [F.pre, F.par, F.size]; rw [show i + (F.size c + 1) = i + 1 + F.size c by omega], ?_⟩
      rw [f2]; simp [F.len]
    | cons r1 r2 =>
      rw [← hq]
      have hn : 1 ≤ F.len r := by rw [hq]; simp [F.len]
      have e2 : pop (dec s 1) = dec s 1 := pop_dec s 1 (fun p l s' e => by have := hr p l s' e; simp only [F.len] at this; omega)
      obtain ⟨st3, g1, g2⟩ := goP_pre r (i + 1 + F.size c) st2 (dec s 1) R (by rw [f2, e2]) (fun p l s' e => by
        cases s with
        | nil => cases e
        | cons q s =>
          obtain ⟨p', l'⟩ := q
          have := hr p' l' s rfl
          simp only [dec, List.cons.injEq, Prod.mk.injEq] at e
          simp only [F.len] at this
          omega)
      refine ⟨st3, ?_, ?_⟩
      · rw [g1, top_dec]
        rw [show i + 1 + F.size c + F.size r = i + (F.size c + F.size r + 1) by omega]
        try simp
      · rw [g2, dec_dec]
        rw [show (1 : Int) + (F.len r : Int) = ((F.len r + 1 : Nat) : Int) by omega]
theorem goP_par (g : F) : goP 0 (F.pre g) [] = F.par (-1) 0 g := by
  obtain ⟨st', e, _⟩ := goP_pre g 0 [] [] [] rfl (fun p l s' e => by cases e)
  rw [List.append_nil] at e
  rw [e]; simp [goP, top]

/-! ### Depths; children -/
def dps : List Int → List Int → List Int
  | out, [] => out
  | out, p :: P => dps (out ++ [if p < 0 then 0 else out.getD p.toNat 0 + 1]) P
theorem getD_app (a b : List Int) (i : Nat) (h : i < a.length) : (a ++ b).getD i 0 = a.getD i 0 := by
  rw [List.getD_eq_getElem?_getD, List.getD_eq_getElem?_getD, List.getElem?_append_left h]
theorem getD_appR (a b : List Int) (i : Nat) (h : a.length ≤ i) : (a ++ b).getD i 0 = b.getD (i - a.length) 0 := by
  rw [List.getD_eq_getElem?_getD, List.getD_eq_getElem?_getD, List.getElem?_append_right h]
theorem dps_par : ∀ (g : F) (p : Int) (i : Nat) (d : Int) (out R : List Int), out.length = i → p < i → (p < 0 → d = 0) → (0 ≤ p → out.getD p.toNat 0 + 1 = d) →
    dps out (F.par p i g ++ R) = dps (out ++ F.dep d g) R
  | .nil, p, i, d, out, R, _, _, _, _ => by simp [F.par, F.dep]
  | .cons c r, p, i, d, out, R, h0, h1, h2, h3 => by
    simp only [F.par, F.dep, List.cons_append, dps, List.append_assoc]
    have e : (if p < 0 then (0 : Int) else out.getD p.toNat 0 + 1) = d := by
      by_cases c : p < 0
      · rw [if_pos c, h2 c]
      · rw [if_neg c, h3 (by omega)]
    rw [e, dps_par c (i : Int) (i + 1) (d + 1) (out ++ [d]) _ (by simp [h0]) (by omega) (by omega) (fun _ => by
      rw [Int.toNat_natCast, getD_appR _ _ _ (by omega), h0, Nat.sub_self]; rfl)]
    rw [dps_par r p (i + 1 + F.size c) d _ _ (by simp [h0, F.dep_len]; omega) (by omega) h2 (fun hp => by
      rw [List.append_assoc, getD_app _ _ _ (by omega)]; exact h3 hp)]
    simp
theorem dps_all (g : F) : dps [] (F.par (-1) 0 g) = F.dep 0 g := by
  have := dps_par g (-1) 0 0 [] [] rfl (by omega) (by omega) (by omega)
  rw [List.append_nil, List.nil_append] at this
  exact this
theorem dps_app : ∀ (P Q out : List Int), dps out (P ++ Q) = dps (dps out P) Q
  | [], Q, out => rfl
  | p :: P, Q, out => dps_app P Q _
theorem dps_len : ∀ (P out : List Int), (dps out P).length = out.length + P.length
  | [], out => rfl
  | p :: P, out => by rw [dps, dps_len P, List.length_append, List.length_cons, List.length_cons, List.length_nil]; omega
theorem dps_pref : ∀ (P out : List Int) (j : Nat), j < out.length → (dps out P).getD j 0 = out.getD j 0
  | [], out, j, h => rfl
  | p :: P, out, j, h => by rw [dps, dps_pref P _ j (by rw [List.length_append]; omega), getD_app _ _ _ h]
theorem dps_get (P : List Int) (i : Nat) (hi : i < P.length) (hP : P.getD i 0 < i) : (dps [] P).getD i 0 = if P.getD i 0 < 0 then 0 else (dps [] P).getD (P.getD i 0).toNat 0 + 1 := by
  have e : P = P.take i ++ P.getD i 0 :: P.drop (i + 1) := by
    conv => lhs; rw [← List.take_append_drop i P, List.drop_eq_getElem_cons hi]
    rw [← getD_lt P i hi]
  have hl : (dps [] (P.take i)).length = i := by rw [dps_len, List.length_take]; simp; omega
  have key : ∀ (B R : List Int) (x : Int), B.length = i → x < i → (dps B (x :: R)).getD i 0 = if x < 0 then 0 else (dps B (x :: R)).getD x.toNat 0 + 1 := by
    intro B R x hB hx
    have g : ∀ v : Int, v = (if x < 0 then 0 else B.getD x.toNat 0 + 1) → (dps (B ++ [v]) R).getD i 0 = if x < 0 then 0 else (dps (B ++ [v]) R).getD x.toNat 0 + 1 := by
      intro v hv
      have hl2 : (B ++ [v]).length = i + 1 := by rw [List.length_append, hB]; rfl
      rw [dps_pref R (B ++ [v]) i (by omega), getD_appR B [v] i (by omega), hB, Nat.sub_self, List.getD_cons_zero]
      by_cases c : x < 0
      · rw [if_pos c] at hv ⊢; exact hv
      · rw [if_neg c] at hv ⊢; rw [dps_pref R (B ++ [v]) x.toNat (by omega), getD_app B [v] x.toNat (by omega)]; exact hv
    exact g _ rfl
  have e2 : dps [] P = dps (dps [] (P.take i)) (P.getD i 0 :: P.drop (i + 1)) := by rw [← dps_app, ← e]
  rw [e2]
  exact key _ _ _ hl hP
theorem par_b : ∀ (g : F) (p : Int) (i : Nat) (j : Nat), -1 ≤ p → p < i → j < F.size g → -1 ≤ (F.par p i g).getD j 0 ∧ (F.par p i g).getD j 0 < i + j
  | .nil, p, i, j, _, _, h => by simp [F.size] at h
  | .cons c r, p, i, j, h0, h1, h => by
    simp only [F.par]
    cases j with
    | zero => simp; omega
    | succ j =>
      rw [List.getD_cons_succ]
      simp only [F.size] at h
      by_cases hj : j < F.size c
      · rw [getD_app _ _ _ (by rw [F.par_len]; exact hj)]
        have := par_b c (i : Int) (i + 1) j (by omega) (by omega) hj
        omega
      · rw [getD_appR _ _ _ (by rw [F.par_len]; omega), F.par_len]
        have := par_b r p (i + 1 + F.size c) (j - F.size c) h0 (by omega) (by omega)
        omega
theorem par_count : ∀ (g : F) (p : Int) (i : Nat) (j : Int), p < i → ((F.par p i g).count j : Int) = (if p = j then (F.len g : Int) else 0) + (if (i : Int) ≤ j ∧ j < (i : Int) + (F.size g : Int) then (F.pre g).getD (j - i).toNat 0 else 0)
  | .nil, p, i, j, h => by simp [F.par, F.len, F.size]; omega
  | .cons c r, p, i, j, h => by
    have h1 := par_count c (i : Int) (i + 1) j (by omega)
    have h2 := par_count r p (i + 1 + F.size c) j (by omega)
    rw [show F.size (F.cons c r) = F.size c + F.size r + 1 from rfl, show F.len (F.cons c r) = F.len r + 1 from rfl, show F.pre (F.cons c r) = (F.len c : Int) :: (F.pre c ++ F.pre r) from rfl, show F.par p i (F.cons c r) = p :: (F.par (i : Int) (i + 1) c ++ F.par p (i + 1 + F.size c) r) from rfl, List.count_cons, List.count_append]
    have e1 : ((List.count j (F.par (i : Int) (i + 1) c) + List.count j (F.par p (i + 1 + F.size c) r) + (if (p == j) = true then 1 else 0) : Nat) : Int) = (List.count j (F.par (i : Int) (i + 1) c) : Int) + (List.count j (F.par p (i + 1 + F.size c) r) : Int) + (if p = j then 1 else 0) := by
      by_cases c : p = j <;> simp [c]
    rw [e1, h1, h2]
    by_cases c1 : j < i
    · rw [if_neg (c := (i : Int) = j) (by omega), if_neg (c := ((i + 1 : Nat) : Int) ≤ j ∧ _) (by omega), if_neg (c := ((i + 1 + F.size c : Nat) : Int) ≤ j ∧ _) (by omega), if_neg (c := (i : Int) ≤ j ∧ _) (by omega)]
      by_cases c2 : p = j
      · rw [if_pos c2, if_pos c2, if_pos c2]; omega
      · rw [if_neg c2, if_neg c2, if_neg c2]; omega
    · have c2 : p ≠ j := by omega
      rw [if_neg c2, if_neg c2, if_neg c2]
      by_cases c3 : (i : Int) = j
      · rw [if_pos c3, if_neg (c := ((i + 1 : Nat) : Int) ≤ j ∧ _) (by omega), if_neg (c := ((i + 1 + F.size c : Nat) : Int) ≤ j ∧ _) (by omega), if_pos (by omega), show (j - (i : Int)).toNat = 0 by omega, List.getD_cons_zero]
        omega
      · rw [if_neg c3]
        by_cases c4 : j < i + 1 + F.size c
        · rw [if_pos (by omega), if_neg (c := ((i + 1 + F.size c : Nat) : Int) ≤ j ∧ _) (by omega), if_pos (by omega), show (j - (i : Int)).toNat = (j - ((i + 1 : Nat) : Int)).toNat + 1 by omega, List.getD_cons_succ, getD_app _ _ _ (by rw [F.pre_len]; omega)]
          omega
        · rw [if_neg (c := ((i + 1 : Nat) : Int) ≤ j ∧ _) (by omega)]
          by_cases c5 : j < i + 1 + F.size c + F.size r
          · rw [if_pos (by omega), if_pos (by omega), show (j - (i : Int)).toNat = (j - ((i + 1 + F.size c : Nat) : Int)).toNat + F.size c + 1 by omega, List.getD_cons_succ, getD_appR _ _ _ (by rw [F.pre_len]; omega), F.pre_len, Nat.add_sub_cancel]
            omega
          · rw [if_neg (by omega), if_neg (by omega)]
            omega

/-! ### A forest falls into its trees -/
theorem drop_cons (L T : List Int) (i : Nat) (x : Int) (h : L.drop i = x :: T) : i < L.length ∧ L.getD i 0 = x ∧ L.drop (i + 1) = T := by
  have hi : i < L.length := by
    apply Nat.lt_of_not_le
    intro c
    rw [List.drop_eq_nil_of_le c] at h
    cases h
  rw [List.drop_eq_getElem_cons hi] at h
  injection h with h1 h2
  exact ⟨hi, by rw [getD_lt L i hi, h1], h2⟩
theorem drop_app (L A B : List Int) (i : Nat) (h : L.drop i = A ++ B) : L.drop (i + A.length) = B := by
  rw [← List.drop_drop, h, List.drop_left]
theorem take_app (L A B : List Int) (i : Nat) (h : L.drop i = A ++ B) : (L.take (i + A.length)).drop i = A := by
  rw [List.drop_take, h, Nat.add_sub_cancel_left, List.take_left]
theorem drop_len (L A B : List Int) (i : Nat) (hi : i ≤ L.length) (h : L.drop i = A ++ B) : i + A.length ≤ L.length := by
  have := congrArg List.length h
  rw [List.length_drop, List.length_append] at this
  omega
theorem op_w (o x : Int) (h0 : 0 ≤ o ∧ o ≤ 2000000) (h1 : 0 ≤ x ∧ x ≤ 1000) : wrap64 (o + wrap64 (x - 1)) = o + (x - 1) := by rw [w64 (x := x - 1) (by omega) (by omega), w64 (by omega) (by omega)]
theorem teI : ∀ (g : F) (L R : List Int) (i k : Nat) (o : Int), L.length ≤ 900 → L.drop i = F.pre g ++ R → (F.len g : Int) ≤ o → o + 1000 * (F.size g : Int) ≤ 1000000 →
    impl_treeEnd.l0 (k + F.size g) L (i : Int) o = impl_treeEnd.l0 k L ((i + F.size g : Nat) : Int) (o - (F.len g : Int))
  | .nil, L, R, i, k, o, _, _, _, _ => by simp [F.size, F.len]
  | .cons c r, L, R, i, k, o, hl, hd, ho, hb => by
    simp only [F.pre, List.cons_append, List.append_assoc] at hd
    obtain ⟨hi, hx, hd2⟩ := drop_cons L _ i _ hd
    have hd3 := drop_app L (F.pre c) (F.pre r ++ R) (i + 1) hd2
    rw [F.pre_len] at hd3
    have q1 := F.len_size c; have q2 := F.len_size r
    have q3 : F.size c ≤ 900 := by
      have := drop_len L (F.pre c) (F.pre r ++ R) (i + 1) (by omega) hd2
      rw [F.pre_len] at this; omega
    simp only [F.len, F.size] at ho hb ⊢
    rw [show k + (F.size c + F.size r + 1) = (k + F.size r + F.size c) + 1 by omega, impl_treeEnd.l0, if_pos (by omega), if_pos (Int.natCast_nonneg i), if_pos (rl _ _ hi), rdg, hx, rw_suc i (by omega), op_w o _ (by omega) (by omega)]
    rw [teI c L (F.pre r ++ R) (i + 1) (k + F.size r) _ hl hd2 (by omega) (by omega), teI r L R (i + 1 + F.size c) k _ hl hd3 (by omega) (by omega)]
    rw [show i + 1 + F.size c + F.size r = i + (F.size c + F.size r + 1) by omega, show o + ((F.len c : Int) - 1) - (F.len c : Int) - (F.len r : Int) = o - ((F.len r + 1 : Nat) : Int) by omega]
theorem clone_eq (L : List Int) (h : L.length ≤ 1000) : slices_Clone_int_int.f L = some L := by
  unfold slices_Clone_int_int.f
  rw [Option.bind_some, if_pos (by simp; omega), List.nil_append]
theorem tsI : ∀ (g : F) (L : List Int) (i k : Nat) (out : List (List Int)), L.length ≤ 900 → i ≤ L.length → L.drop i = F.pre g → out.length + F.len g ≤ 1000 → F.len g + L.length + 5 < k →
    impl_treesIn.l0 k L out (i : Int) = some (out ++ F.trs g)
  | .nil, L, i, k, out, hl, hil, hd, ho, hk => by
    obtain ⟨k, rfl⟩ : ∃ m, k = m + 1 := ⟨k - 1, by omega⟩
    have : L.length ≤ i := List.drop_eq_nil_iff.mp hd
    rw [impl_treesIn.l0, if_neg (by omega), F.trs, List.append_nil]
  | .cons c r, L, i, k, out, hl, hil, hd, ho, hk => by
    obtain ⟨k, rfl⟩ : ∃ m, k = m + 1 := ⟨k - 1, by omega⟩
    have hd1 : L.drop i = F.pre (F.cons c F.nil) ++ F.pre r := by rw [hd]; simp [F.pre]
    have hlen := drop_len L _ _ i hil hd1
    have hd3 := drop_app L _ _ i hd1
    have hs := take_app L _ _ i hd1
    rw [F.pre_len] at hlen hd3 hs
    have hi : i < L.length := by simp only [F.size] at hlen; omega
    have hsz : F.size (F.cons c F.nil) = F.size c + 1 := by simp [F.size]
    simp only [F.len] at ho hk
    have e1 : impl_treeEnd.f k L (i : Int) = some ((i + F.size (F.cons c F.nil) : Nat) : Int) := by
      unfold impl_treeEnd.f
      obtain ⟨k', rfl⟩ : ∃ m, k = m + 1 + F.size (F.cons c F.nil) := ⟨k - 1 - F.size (F.cons c F.nil), by omega⟩
      rw [teI (F.cons c F.nil) L (F.pre r) i (k' + 1) 1 hl hd1 (by simp [F.len]) (by omega), impl_treeEnd.l0, if_neg (by simp [F.len])]
    rw [impl_treesIn.l0, if_pos (rl _ _ hi), e1, Option.bind_some, if_pos (Int.natCast_nonneg i), if_pos (by omega), if_pos (by omega), Int.toNat_natCast, Int.toNat_natCast, hs, clone_eq _ (by rw [F.pre_len]; omega), Option.bind_some, if_pos (by omega)]
    rw [tsI r L _ k _ hl hlen hd3 (by rw [List.length_append, List.length_singleton]; omega) (by omega)]
    simp [F.trs, F.pre]
theorem treesInI (g : F) (hg : F.size g ≤ 400) (k : Nat) (hk : 1000 < k) : impl_treesIn.f k (F.pre g) = some (F.trs g) := by
  have h1 := F.pre_len g; have h2 := F.len_size g
  have := tsI g (F.pre g) 0 k [] (by omega) (by omega) rfl (by simp; omega) (by omega)
  rw [List.nil_append] at this
  exact this
/-! The reference's trees -/
theorem ctA : ∀ (g : F) (L R : List Int) (i k : Nat) (out : List (List Int)) (tree : List Int) (m : Int), L.length ≤ 900 → i ≤ L.length → L.drop i = F.pre g ++ R → 1 ≤ m → m + 1000 * (F.size g : Int) ≤ 1000000 → tree.length + F.size g ≤ 1000 →
    spec_cyTrees.l0 (k + F.size g) out tree ((F.len g : Int) + m) L (L.length : Int) (i : Int) = spec_cyTrees.l0 k out (tree ++ F.pre g) m L (L.length : Int) ((i + F.size g : Nat) : Int)
  | .nil, L, R, i, k, out, tree, m, _, _, _, _, _, _ => by simp [F.size, F.len, F.pre]
  | .cons c r, L, R, i, k, out, tree, m, hl, hil, hd, hm, hb, ht => by
    simp only [F.pre, List.cons_append, List.append_assoc] at hd
    obtain ⟨hi, hx, hd2⟩ := drop_cons L _ i _ hd
    have hd3 := drop_app L (F.pre c) (F.pre r ++ R) (i + 1) hd2
    have hlen := drop_len L (F.pre c) (F.pre r ++ R) (i + 1) (by omega) hd2
    rw [F.pre_len] at hd3 hlen
    have q1 := F.len_size c; have q2 := F.len_size r
    simp only [F.len, F.size] at hb ht ⊢
    rw [show k + (F.size c + F.size r + 1) = (k + F.size r + F.size c) + 1 by omega, spec_cyTrees.l0, if_pos (rl _ _ hi), if_pos (Int.natCast_nonneg i), if_pos (rl _ _ hi), if_pos (by omega), Option.bind_some, rdg, hx, rw_suc i (by omega), op_w _ _ (by omega) (by omega), if_neg (by omega)]
    rw [show ((F.len r + 1 : Nat) : Int) + m + ((F.len c : Int) - 1) = (F.len c : Int) + ((F.len r : Int) + m) by omega]
    rw [ctA c L (F.pre r ++ R) (i + 1) (k + F.size r) out _ _ hl (by omega) hd2 (by omega) (by omega) (by rw [List.length_append, List.length_singleton]; omega), ctA r L R (i + 1 + F.size c) k out _ m hl hlen hd3 hm (by omega) (by rw [List.length_append, List.length_append, List.length_singleton, F.pre_len]; omega)]
    rw [show i + 1 + F.size c + F.size r = i + (F.size c + F.size r + 1) by omega]
    simp [F.pre]
theorem ctB : ∀ (g : F) (L R : List Int) (i k : Nat) (out : List (List Int)) (tree : List Int), g ≠ .nil → L.length ≤ 900 → i ≤ L.length → L.drop i = F.pre g ++ R → F.size g ≤ 900 → tree.length + F.size g ≤ 1000 → out.length ≤ 1000 →
    spec_cyTrees.l0 (k + F.size g) out tree (F.len g : Int) L (L.length : Int) (i : Int) = spec_cyTrees.l0 k (out ++ [tree ++ F.pre g]) [] 1 L (L.length : Int) ((i + F.size g : Nat) : Int)
  | .nil, L, R, i, k, out, tree, h, _, _, _, _, _, _ => absurd rfl h
  | .cons c r, L, R, i, k, out, tree, _, hl, hil, hd, hz, ht, ho => by
    simp only [F.pre, List.cons_append, List.append_assoc] at hd
    obtain ⟨hi, hx, hd2⟩ := drop_cons L _ i _ hd
    have hd3 := drop_app L (F.pre c) (F.pre r ++ R) (i + 1) hd2
    have hlen := drop_len L (F.pre c) (F.pre r ++ R) (i + 1) (by omega) hd2
    rw [F.pre_len] at hd3 hlen
    have q1 := F.len_size c; have q2 := F.len_size r
    simp only [F.len, F.size] at hz ht ⊢
    rw [show k + (F.size c + F.size r + 1) = (k + F.size r + F.size c) + 1 by omega, spec_cyTrees.l0, if_pos (rl _ _ hi), if_pos (Int.natCast_nonneg i), if_pos (rl _ _ hi), if_pos (by omega), Option.bind_some, rdg, hx, rw_suc i (by omega), op_w _ _ (by omega) (by omega)]
    rw [show ((F.len r + 1 : Nat) : Int) + ((F.len c : Int) - 1) = (F.len c : Int) + (F.len r : Int) by omega]
    by_cases hr : r = .nil
    · subst hr
      by_cases hc : c = .nil
      · subst hc
        rw [if_pos (by simp [F.len]), if_pos (by omega)]
        simp [F.len, F.size, F.pre]
      · have := (F.ne_nil c).mp hc
        rw [if_neg (by simp [F.len]; omega)]
        rw [show (F.len c : Int) + (F.len F.nil : Int) = (F.len c : Int) by simp [F.len], show F.size F.nil = 0 from rfl, Nat.add_zero]
        rw [ctB c L _ (i + 1) k out _ hc hl (by omega) hd2 (by omega) (by rw [List.length_append, List.length_singleton]; omega) ho]
        rw [show i + 1 + F.size c = i + (F.size c + 0 + 1) by omega]
        simp [F.pre]
    · have := (F.ne_nil r).mp hr
      rw [if_neg (by omega)]
      rw [ctA c L _ (i + 1) (k + F.size r) out _ (F.len r : Int) hl (by omega) hd2 (by omega) (by omega) (by rw [List.length_append, List.length_singleton]; omega)]
      rw [ctB r L R (i + 1 + F.size c) k out _ hr hl hlen hd3 (by omega) (by rw [List.length_append, List.length_append, List.length_singleton, F.pre_len]; omega) ho]
      rw [show i + 1 + F.size c + F.size r = i + (F.size c + F.size r + 1) by omega]
      simp [F.pre]
theorem ctS : ∀ (g : F) (L : List Int) (i k : Nat) (out : List (List Int)), L.length ≤ 900 → i ≤ L.length → L.drop i = F.pre g → out.length + F.len g ≤ 1000 →
    spec_cyTrees.l0 (k + 1 + F.size g) out [] 1 L (L.length : Int) (i : Int) = some (out ++ F.trs g)
  | .nil, L, i, k, out, hl, hil, hd, ho => by
    have : L.length ≤ i := List.drop_eq_nil_iff.mp hd
    rw [F.size, Nat.add_zero, spec_cyTrees.l0, if_neg (by omega), F.trs, List.append_nil]
  | .cons c r, L, i, k, out, hl, hil, hd, ho => by
    have hd1 : L.drop i = F.pre (F.cons c F.nil) ++ F.pre r := by rw [hd]; simp [F.pre]
    have hlen := drop_len L _ _ i hil hd1
    have hd3 := drop_app L _ _ i hd1
    rw [F.pre_len] at hlen hd3
    have hsz : F.size (F.cons c F.nil) = F.size c + 1 := by simp [F.size]
    simp only [F.len] at ho
    have := ctB (F.cons c F.nil) L (F.pre r) i (k + 1 + F.size r) out [] (by simp) hl hil hd1 (by omega) (by simp; omega) (by omega)
    rw [show k + 1 + F.size (F.cons c r) = k + 1 + F.size r + F.size (F.cons c F.nil) by simp [F.size]; omega]
    rw [show ((F.len (F.cons c F.nil) : Nat) : Int) = 1 by simp [F.len]] at this
    rw [this, ctS r L _ k _ hl hlen hd3 (by rw [List.length_append, List.length_singleton]; omega)]
    simp [F.trs, F.pre]
theorem cyTreesS (g : F) (hg : F.size g ≤ 400) (k : Nat) (hk : 1000 < k) : spec_cyTrees.f k (F.pre g) = some (F.trs g) := by
  have h1 := F.pre_len g; have h2 := F.len_size g
  obtain ⟨k', rfl⟩ : ∃ m, k = m + 1 + F.size g := ⟨k - 1 - F.size g, by omega⟩
  have := ctS g (F.pre g) 0 k' [] (by omega) (by omega) rfl (by simp; omega)
  rw [List.nil_append] at this
  exact this

/-! ### The program's parents and the reference's, told with one stack -/
def nds (st : List (Nat × Int)) : List Int := (st.map fun q => (q.1 : Int)).reverse
def lfs (st : List (Nat × Int)) : List Int := (st.map fun q => q.2).reverse
theorem nds_len (st : List (Nat × Int)) : (nds st).length = st.length := by simp [nds]
theorem lfs_len (st : List (Nat × Int)) : (lfs st).length = st.length := by simp [lfs]
theorem nds_cons (p : Nat) (l : Int) (st : List (Nat × Int)) : nds ((p, l) :: st) = nds st ++ [(p : Int)] := by simp [nds]
theorem lfs_cons (p : Nat) (l : Int) (st : List (Nat × Int)) : lfs ((p, l) :: st) = lfs st ++ [l] := by simp [lfs]
theorem nds_dec (st : List (Nat × Int)) (n : Int) : nds (dec st n) = nds st := by
  cases st with
  | nil => rfl
  | cons q st => obtain ⟨p, l⟩ := q; simp only [dec, nds_cons]
theorem rd_end (A : List Int) (x : Int) (n : Nat) (h : A.length = n) : rd (A ++ [x]) (n : Int) = x := by
  rw [rdg, getD_appR _ _ _ (by omega), h, Nat.sub_self]; rfl
theorem take_end (A : List Int) (x : Int) (n : Nat) (h : A.length = n) : (A ++ [x]).take (n : Int).toNat = A := by
  rw [Int.toNat_natCast, ← h, List.take_left]
theorem set_end (A : List Int) (x y : Int) (n : Nat) (h : A.length = n) : (A ++ [x]).set (n : Int).toNat y = A ++ [y] := by
  rw [Int.toNat_natCast, ← h, List.set_append_right _ _ (Nat.le_refl _), Nat.sub_self]; rfl
theorem pr_w (n : Nat) (h : 1 ≤ n) (h2 : n ≤ 100000) : wrap64 ((n : Int) - 1) = ((n - 1 : Nat) : Int) := by rw [w64 (by omega) (by omega)]; omega
theorem dc_w (l : Int) (h : -100000 ≤ l ∧ l ≤ 100000) : wrap64 (l - 1) = l - 1 := w64 (by omega) (by omega)
theorem pop_len : ∀ st : List (Nat × Int), (pop st).length ≤ st.length
  | [] => Nat.le_refl _
  | (p, l) :: s => by
    by_cases h : l = 0
    · simp only [pop, if_pos h, List.length_cons]; have := pop_len s; omega
    · simp only [pop, if_neg h]; exact Nat.le_refl _
theorem dec_len (st : List (Nat × Int)) (n : Int) : (dec st n).length = st.length := by
  cases st with
  | nil => rfl
  | cons q st => rfl
theorem push_len (i : Nat) (d : Int) (st : List (Nat × Int)) : (push i d st).length ≤ st.length + 1 := by
  unfold push
  rw [List.length_cons, dec_len]
  have := pop_len st
  omega
/-- What the stack's nodes wait for stands in the program's own copy of the degrees. -/
def Rel (L : List Int) (i : Nat) (st : List (Nat × Int)) (X : List Int) : Prop :=
  X.length = L.length ∧ (∀ q ∈ st, q.1 < i ∧ X.getD q.1 0 = q.2 ∧ -(i : Int) ≤ q.2 ∧ q.2 ≤ 16) ∧ List.Pairwise (fun a b => b.1 < a.1) st ∧ ∀ j, i ≤ j → X.getD j 0 = L.getD j 0
theorem rel_tail {L : List Int} {i : Nat} {q : Nat × Int} {st : List (Nat × Int)} {X : List Int} (h : Rel L i (q :: st) X) : Rel L i st X :=
  ⟨h.1, fun r hr => h.2.1 r (List.mem_cons_of_mem _ hr), (List.pairwise_cons.mp h.2.2.1).2, h.2.2.2⟩
theorem getD_set_ne (X : List Int) (a j : Nat) (v : Int) (h : a ≠ j) : (X.set a v).getD j 0 = X.getD j 0 := by
  rw [List.getD_eq_getElem?_getD, List.getD_eq_getElem?_getD, List.getElem?_set_ne h]
theorem getD_set_eq (X : List Int) (a : Nat) (v : Int) (h : a < X.length) : (X.set a v).getD a 0 = v := by
  rw [List.getD_eq_getElem?_getD, List.getElem?_set_self h]; rfl
theorem rel_push_nil {L : List Int} {i : Nat} {X : List Int} (hX : X.length = L.length) (hL : ∀ j, i ≤ j → X.getD j 0 = L.getD j 0) (d : Int) (hd : 0 ≤ d ∧ d ≤ 16) (e : L.getD i 0 = d) : Rel L (i + 1) [(i, d)] X := by
  refine ⟨hX, fun q hq => ?_, by simp, fun j hj => hL j (by omega)⟩
  obtain rfl : q = (i, d) := by simpa using hq
  exact ⟨by omega, by show X.getD i 0 = d; rw [hL i (Nat.le_refl _), e], by show _ ≤ d; omega, hd.2⟩
theorem rel_push {L : List Int} {i : Nat} {p : Nat} {l : Int} {s : List (Nat × Int)} {X : List Int} (h : Rel L i ((p, l) :: s) X) (hi : i < L.length) (d : Int) (hd : 0 ≤ d ∧ d ≤ 16) (e : L.getD i 0 = d) :
    Rel L (i + 1) ((i, d) :: (p, l - 1) :: s) (X.set p (l - 1)) := by
  obtain ⟨h1, h2, h3, h4⟩ := h
  obtain ⟨g1, g2⟩ := List.pairwise_cons.mp h3
  have hp := h2 (p, l) List.mem_cons_self
  have hp1 : p < i := hp.1
  have hp2 : X.getD p 0 = l := hp.2.1
  have hp3 : -(i : Int) ≤ l ∧ l ≤ 16 := hp.2.2
  refine ⟨by rw [List.length_set]; exact h1, fun q hq => ?_, ?_, fun j hj => by rw [getD_set_ne _ _ _ _ (by omega)]; exact h4 j (by omega)⟩
  · rcases List.mem_cons.mp hq with rfl | hq
    · exact ⟨Nat.lt_succ_self _, by show (X.set p (l - 1)).getD i 0 = d; rw [getD_set_ne _ _ _ _ (by omega), h4 i (Nat.le_refl _), e], by show _ ≤ d; omega, hd.2⟩
    · rcases List.mem_cons.mp hq with rfl | hq
      · exact ⟨by show p < i + 1; omega, by show (X.set p (l - 1)).getD p 0 = l - 1; exact getD_set_eq _ _ _ (by omega), by show _ ≤ l - 1; omega, by show l - 1 ≤ 16; omega⟩
      · have a1 := h2 q (List.mem_cons_of_mem _ hq)
        have a2 := g1 q hq
        have a2 : q.1 < p := a2
        exact ⟨by omega, by rw [getD_set_ne _ _ _ _ (by omega)]; exact a1.2.1, by have := a1.2.2; omega, a1.2.2.2⟩
  · refine List.pairwise_cons.mpr ⟨fun q hq => ?_, List.pairwise_cons.mpr ⟨g1, g2⟩⟩
    rcases List.mem_cons.mp hq with rfl | hq
    · exact hp1
    · have := (h2 q (List.mem_cons_of_mem _ hq)).1; exact this
theorem len_pos {xs : List Int} (n : Nat) (h : xs.length = n + 1) : ((xs.length : Int) > 0) ∧ wrap64 ((xs.length : Int) - 1) = (wrap64 (((n + 1 : Nat) : Int) - 1)) := by
  rw [h]; exact ⟨by omega, rfl⟩
theorem parI1 (L : List Int) (hl : L.length ≤ 900) (i : Nat) (hi : i < L.length) (d : Int) (hd : 0 ≤ d ∧ d ≤ 16) (e : L.getD i 0 = d) (out : List Int) (ho : out.length = i) (N : Int) :
    ∀ (st : List (Nat × Int)) (X : List Int), st.length ≤ i → Rel L i st X → ∀ k, ∃ k' X', k ≤ k' ∧ Rel L (i + 1) (push i d st) X' ∧
      impl_parents.l1 (k + st.length + 1) out X (nds st) (i : Int) N (i : Int) = impl_parents.l0 k' (out ++ [top (pop st)]) X' (nds (push i d st)) N ((i + 1 : Nat) : Int)
  | [], X, _, hR, k => by
    refine ⟨k, X, Nat.le_refl _, rel_push_nil hR.1 hR.2.2.2 d hd e, ?_⟩
    rw [show nds [] = [] from rfl, impl_parents.l1, if_neg (by simp), if_pos (by simp), if_pos (by omega), if_pos (by simp), rw_suc i (by omega)]
    rfl
  | (p, l) :: s, X, hs, hR, k => by
    have hp := hR.2.1 (p, l) List.mem_cons_self
    have hp1 : p < i := hp.1
    have hp2 : X.getD p 0 = l := hp.2.1
    have hp3 : -(i : Int) ≤ l ∧ l ≤ 16 := hp.2.2
    rw [List.length_cons] at hs
    have e1 : (nds ((p, l) :: s)).length = s.length + 1 := by rw [nds_len, List.length_cons]
    have e2 : wrap64 (((nds ((p, l) :: s)).length : Int) - 1) = (s.length : Int) := by rw [e1, pr_w _ (by omega) (by omega)]; rfl
    have e3 : rd (nds ((p, l) :: s)) (s.length : Int) = (p : Int) := by rw [nds_cons]; exact rd_end _ _ _ (nds_len s)
    have e4 : rd X (p : Int) = l := by rw [rdg]; exact hp2
    have hXl := hR.1
    rw [show k + ((p, l) :: s).length + 1 = (k + s.length + 1) + 1 by rw [List.length_cons]; omega, impl_parents.l1, e2, if_pos (by omega), if_pos (Int.natCast_nonneg _), if_pos (by omega), e3, if_pos (Int.natCast_nonneg _), if_pos (by omega), e4]
    by_cases c : l = 0
    · rw [if_pos c, if_pos (by omega)]
      have e5 : (nds ((p, l) :: s)).take (s.length : Int).toNat = nds s := by rw [nds_cons]; exact take_end _ _ _ (nds_len s)
      rw [e5]
      obtain ⟨k', X', f1, f2, f3⟩ := parI1 L hl i hi d hd e out ho N s X (by omega) (rel_tail hR) k
      have e6 : push i d ((p, l) :: s) = push i d s := by simp only [push, pop, if_pos c]
      have e7 : pop ((p, l) :: s) = pop s := by simp only [pop, if_pos c]
      rw [e6, e7]
      exact ⟨k', X', f1, f2, f3⟩
    · have e6 : push i d ((p, l) :: s) = (i, d) :: (p, l - 1) :: s := by simp only [push, pop, if_neg c, dec]
      have e7 : top (pop ((p, l) :: s)) = (p : Int) := by simp only [pop, if_neg c, top]
      rw [if_neg c, if_neg (by omega), if_pos (by omega), if_pos (by omega), e6, e7, Int.toNat_natCast, dc_w l (by omega), rw_suc i (by omega)]
      refine ⟨k + s.length + 1, X.set p (l - 1), by omega, rel_push hR hi d hd e, ?_⟩
      rw [nds_cons i d, nds_cons p (l - 1), nds_cons p l]
theorem parI (L : List Int) (hl : L.length ≤ 900) (hL : ∀ x ∈ L, 0 ≤ x ∧ x ≤ 16) (d : Nat) : ∀ (i : Nat) (st : List (Nat × Int)) (X out : List Int) (k : Nat), i + d = L.length → out.length = i → st.length ≤ i → Rel L i st X → 1000 * d + 5 < k →
    impl_parents.l0 k out X (nds st) (L.length : Int) (i : Int) = some (out ++ goP i (L.drop i) st) := by
  induction d with
  | zero =>
    intro i st X out k h1 h2 h3 h4 h5
    obtain ⟨k, rfl⟩ : ∃ m, k = m + 1 := ⟨k - 1, by omega⟩
    rw [impl_parents.l0, if_neg (by omega), List.drop_eq_nil_of_le (by omega), goP, List.append_nil]
  | succ d ih =>
    intro i st X out k h1 h2 h3 h4 h5
    have hi : i < L.length := by omega
    obtain ⟨k, rfl⟩ : ∃ m, k = (m + st.length + 1) + 1 := ⟨k - 2 - st.length, by omega⟩
    obtain ⟨k', X', f1, f2, f3⟩ := parI1 L hl i hi (L.getD i 0) (deg_get L hL i hi) rfl out h2 (L.length : Int) st X h3 h4 k
    have hpl := push_len i (L.getD i 0) st
    rw [impl_parents.l0, if_pos (rl _ _ hi), f3, ih (i + 1) (push i (L.getD i 0) st) X' _ k' (by omega) (by rw [List.length_append, h2]; rfl) (by omega) f2 (by omega)]
    rw [List.drop_eq_getElem_cons hi, goP, ← getD_lt L i hi, List.append_assoc]
    rfl
theorem parentsI (g : F) (hg : F.size g ≤ 400) (hd : ∀ x ∈ F.pre g, 0 ≤ x ∧ x ≤ 16) (k : Nat) (hk : 500000 < k) : impl_parents.f k (F.pre g) = some (F.par (-1) 0 g) := by
  have h1 := F.pre_len g
  unfold impl_parents.f
  rw [clone_eq _ (by omega), Option.bind_some]
  have := parI (F.pre g) (by omega) hd (F.pre g).length 0 [] (F.pre g) [] k (by omega) rfl (by simp) ⟨rfl, fun q hq => absurd hq List.not_mem_nil, List.Pairwise.nil, fun _ _ => rfl⟩ (by omega)
  rw [List.drop_zero, goP_par, List.nil_append] at this
  exact this
/-! The reference's -/
theorem ps_l1 (L : List Int) (i : Nat) (out : List Int) (N M : Int) (hi : i ≤ 900) : ∀ (t : List (Nat × Int)), t.length ≤ 900 → ∀ k, ∃ k', k ≤ k' ∧
    spec_cyParents.l1 (k + t.length + 1) out (nds t) (lfs t) ((t.length : Int) - 1) L N (i : Int) = spec_cyParents.l0 k' out (nds (pop t)) (lfs (pop t)) L N ((i + 1 : Nat) : Int)
  | [], _, k => by
    refine ⟨k, Nat.le_refl _, ?_⟩
    rw [spec_cyParents.l1, if_neg (by simp), rw_suc i (by omega)]
    rfl
  | (p, l) :: s, hs, k => by
    rw [List.length_cons] at hs
    have e2 : (((p, l) :: s).length : Int) - 1 = (s.length : Int) := by rw [List.length_cons]; omega
    have e3 : rd (lfs ((p, l) :: s)) (s.length : Int) = l := by rw [lfs_cons]; exact rd_end _ _ _ (lfs_len s)
    have e4 : (lfs ((p, l) :: s)).length = s.length + 1 := by rw [lfs_len, List.length_cons]
    have e5 : (nds ((p, l) :: s)).length = s.length + 1 := by rw [nds_len, List.length_cons]
    rw [show k + ((p, l) :: s).length + 1 = (k + s.length + 1) + 1 by rw [List.length_cons]; omega, spec_cyParents.l1, e2, if_pos (by omega), if_pos (by omega), if_pos (by omega), e3]
    by_cases c : l = 0
    · rw [if_pos c, if_pos (by omega), if_pos (by omega)]
      have e6 : (nds ((p, l) :: s)).take (s.length : Int).toNat = nds s := by rw [nds_cons]; exact take_end _ _ _ (nds_len s)
      have e7 : (lfs ((p, l) :: s)).take (s.length : Int).toNat = lfs s := by rw [lfs_cons]; exact take_end _ _ _ (lfs_len s)
      rw [e6, e7, dc_w _ (by omega)]
      obtain ⟨k', f1, f2⟩ := ps_l1 L i out N M hi s (by omega) k
      rw [show pop ((p, l) :: s) = pop s by simp only [pop, if_pos c]]
      exact ⟨k', f1, f2⟩
    · rw [if_neg c, rw_suc i (by omega), show pop ((p, l) :: s) = (p, l) :: s by simp only [pop, if_neg c]]
      exact ⟨k + s.length + 1, by omega, rfl⟩
theorem set_mid (A B : List Int) (x y : Int) (i : Nat) (h : A.length = i) : (A ++ x :: B).set (i : Int).toNat y = A ++ y :: B := by
  rw [Int.toNat_natCast, ← h, List.set_append_right _ _ (Nat.le_refl _), Nat.sub_self]; rfl
theorem rep_succ (n : Nat) : List.replicate (n + 1) (0 : Int) = 0 :: List.replicate n 0 := rfl
theorem parS (L : List Int) (hl : L.length ≤ 900) (hL : ∀ x ∈ L, 0 ≤ x ∧ x ≤ 16) (d : Nat) : ∀ (i : Nat) (st : List (Nat × Int)) (out : List Int) (k : Nat), i + d = L.length → out.length = i → st.length ≤ i → (∀ q ∈ st, -(i : Int) ≤ q.2 ∧ q.2 ≤ 16) → 1000 * d + 5 < k →
    spec_cyParents.l0 k (out ++ List.replicate d 0) (nds (pop st)) (lfs (pop st)) L (L.length : Int) (i : Int) = some (out ++ goP i (L.drop i) st) := by
  induction d with
  | zero =>
    intro i st out k h1 h2 h3 h4 h5
    obtain ⟨k, rfl⟩ : ∃ m, k = m + 1 := ⟨k - 1, by omega⟩
    rw [spec_cyParents.l0, if_neg (by omega), List.drop_eq_nil_of_le (by omega), goP]; rfl
  | succ d ih =>
    intro i st out k h1 h2 h3 h4 h5
    have hi : i < L.length := by omega
    have hx := deg_get L hL i hi
    have hpl := pop_len st
    have hbp : ∀ q ∈ pop st, -(i : Int) ≤ q.2 ∧ q.2 ≤ 16 := by
      have : ∀ (st : List (Nat × Int)) (q), q ∈ pop st → q ∈ st := by
        intro st
        induction st with
        | nil => exact fun q h => h
        | cons r st ih =>
          obtain ⟨p, l⟩ := r
          intro q h
          by_cases c : l = 0
          · simp only [pop, if_pos c] at h; exact List.mem_cons_of_mem _ (ih q h)
          · simp only [pop, if_neg c] at h; exact h
      exact fun q h => h4 q (this st q h)
    have step : ∀ k, 1000 * d + 5 < k → spec_cyParents.j1 (k + (pop st).length + 1 + 2) (out ++ top (pop st) :: List.replicate d 0) (nds (dec (pop st) 1)) (lfs (dec (pop st) 1)) (i : Int) (L.getD i 0) L (L.length : Int) (i : Int) = some (out ++ goP i (L.drop i) st) := by
      intro k hk
      have q1 : (nds (dec (pop st) 1)).length = (pop st).length := by rw [nds_len, dec_len]
      have q2 : (lfs (dec (pop st) 1)).length = (pop st).length := by rw [lfs_len, dec_len]
      rw [show k + (pop st).length + 1 + 2 = (k + (pop st).length + 2) + 1 by omega, spec_cyParents.j1, if_pos (by omega), Option.bind_some, if_pos (by omega)]
      have e1 : nds (dec (pop st) 1) ++ [(i : Int)] = nds (push i (L.getD i 0) st) := by rw [push, nds_cons]
      have e2 : lfs (dec (pop st) 1) ++ [L.getD i 0] = lfs (push i (L.getD i 0) st) := by rw [push, lfs_cons]
      have e3 : (push i (L.getD i 0) st).length = (pop st).length + 1 := by rw [push, List.length_cons, dec_len]
      rw [e1, e2, nds_len, e3, w64 (by omega) (by omega)]
      obtain ⟨k', f1, f2⟩ := ps_l1 L i (out ++ top (pop st) :: List.replicate d 0) (L.length : Int) 0 (by omega) (push i (L.getD i 0) st) (by omega) k
      rw [e3] at f2
      rw [show k + (pop st).length + 2 = k + ((pop st).length + 1) + 1 by omega, f2]
      have hpl2 := push_len i (L.getD i 0) st
      have := ih (i + 1) (push i (L.getD i 0) st) (out ++ [top (pop st)]) k' (by omega) (by rw [List.length_append, h2]; rfl) (by omega) (fun q hq => by
        unfold push at hq
        rcases List.mem_cons.mp hq with rfl | hq
        · show _ ≤ L.getD i 0 ∧ L.getD i 0 ≤ 16; omega
        · cases hps : pop st with
          | nil => rw [hps] at hq; simp [dec] at hq
          | cons r s =>
            obtain ⟨p, l⟩ := r
            rw [hps] at hq hbp
            simp only [dec] at hq
            rcases List.mem_cons.mp hq with rfl | hq
            · have := hbp (p, l) List.mem_cons_self
              show _ ≤ l - 1 ∧ l - 1 ≤ 16
              have h1 : -(i : Int) ≤ l ∧ l ≤ 16 := this
              omega
            · have := hbp q (List.mem_cons_of_mem _ hq); omega) (by omega)
      rw [List.append_assoc] at this
      have this : spec_cyParents.l0 k' (out ++ top (pop st) :: List.replicate d 0) _ _ L (L.length : Int) ((i + 1 : Nat) : Int) = _ := this
      rw [this, List.drop_eq_getElem_cons hi, goP, ← getD_lt L i hi, List.append_assoc]
      rfl
    obtain ⟨k, rfl⟩ : ∃ m, k = (m + (pop st).length + 1 + 2) + 1 := ⟨k - 4 - (pop st).length, by omega⟩
    have hol : (out ++ List.replicate (d + 1) 0).length = L.length := by simp; omega
    rw [spec_cyParents.l0, if_pos (rl _ _ hi), if_pos (Int.natCast_nonneg i), if_pos (rl _ _ hi), if_pos (by omega), Option.bind_some, rep_succ, set_mid _ _ _ _ _ h2, nds_len, rdg]
    have st2 := step k (by omega)
    cases hps : pop st with
    | nil =>
      rw [hps] at st2
      rw [if_neg (by rw [w64 (by simp) (by simp)]; simp)]
      exact st2
    | cons r s =>
      obtain ⟨p, l⟩ := r
      rw [hps] at st2 hbp hpl
      rw [List.length_cons] at hpl
      have hb : -(i : Int) ≤ l ∧ l ≤ 16 := hbp (p, l) List.mem_cons_self
      have e0 : ((p, l) :: s).length = s.length + 1 := List.length_cons
      have e4 : (lfs ((p, l) :: s)).length = s.length + 1 := by rw [lfs_len, List.length_cons]
      have e2 : wrap64 ((((p, l) :: s).length : Int) - 1) = (s.length : Int) := by rw [List.length_cons, pr_w _ (by omega) (by omega)]; rfl
      have e3 : rd (nds ((p, l) :: s)) (s.length : Int) = (p : Int) := by rw [nds_cons]; exact rd_end _ _ _ (nds_len s)
      have e5 : rd (lfs ((p, l) :: s)) (s.length : Int) = l := by rw [lfs_cons]; exact rd_end _ _ _ (lfs_len s)
      have e6 : (lfs ((p, l) :: s)).set (s.length : Int).toNat (l - 1) = lfs (dec ((p, l) :: s) 1) := by rw [lfs_cons]; simp only [dec, lfs_cons]; exact set_end _ _ _ _ (lfs_len s)
      rw [e2, if_pos (by omega), if_pos (by omega), if_pos (by omega), if_pos (by omega), e3, e5, dc_w l (by omega), e6, set_mid _ _ _ _ _ h2, ← nds_dec _ 1]
      exact st2
theorem parentsS (g : F) (hg : F.size g ≤ 400) (hd : ∀ x ∈ F.pre g, 0 ≤ x ∧ x ≤ 16) (k : Nat) (hk : 500000 < k) : spec_cyParents.f k (F.pre g) = some (F.par (-1) 0 g) := by
  have h1 := F.pre_len g
  unfold spec_cyParents.f
  rw [if_pos (Int.natCast_nonneg _), Int.toNat_natCast, if_pos (by omega)]
  have := parS (F.pre g) (by omega) hd (F.pre g).length 0 [] [] k (by omega) rfl (by simp) (fun q hq => absurd hq List.not_mem_nil) (by omega)
  rw [List.drop_zero, goP_par, List.nil_append] at this
  exact this

/-! ### Depths -/
theorem dps_b : ∀ (P out : List Int), (∀ x ∈ out, 0 ≤ x ∧ x ≤ (out.length : Int)) → ∀ x ∈ dps out P, 0 ≤ x ∧ x ≤ ((dps out P).length : Int)
  | [], out, h => h
  | p :: P, out, h => by
    refine dps_b P _ (fun x hx => ?_)
    rw [List.length_append, List.length_singleton]
    rcases List.mem_append.mp hx with hx | hx
    · have := h x hx; omega
    · obtain rfl := List.mem_singleton.mp hx
      by_cases c : p < 0
      · rw [if_pos c]; omega
      · rw [if_neg c]
        by_cases c2 : p.toNat < out.length
        · rw [getD_lt _ _ c2]; have := h _ (List.getElem_mem c2); omega
        · rw [List.getD_eq_getElem?_getD, List.getElem?_eq_none (by omega)]; simp; omega
theorem up_w (x : Int) (h : 0 ≤ x ∧ x ≤ 100000) : wrap64 (x + 1) = x + 1 := w64 (by omega) (by omega)
theorem depI_l (P : List Int) (hl : P.length ≤ 900) (hP : ∀ i, i < P.length → P.getD i 0 < i) (d : Nat) : ∀ (i k : Nat) (out : List Int), i + d = P.length → out.length = i → (∀ x ∈ out, 0 ≤ x ∧ x ≤ (out.length : Int)) → d < k →
    impl_DepthsOf.l0 k out P (P.length : Int) (i : Int) = some (dps out (P.drop i), true) := by
  induction d with
  | zero =>
    intro i k out h1 h2 h3 h4
    obtain ⟨k, rfl⟩ : ∃ m, k = m + 1 := ⟨k - 1, by omega⟩
    rw [impl_DepthsOf.l0, if_neg (by omega), List.drop_eq_nil_of_le (by omega), dps]
  | succ d ih =>
    intro i k out h1 h2 h3 h4
    obtain ⟨k, rfl⟩ : ∃ m, k = m + 1 := ⟨k - 1, by omega⟩
    have hi : i < P.length := by omega
    have hp := hP i hi
    have nx : ∀ v : Int, v = (if P.getD i 0 < 0 then 0 else out.getD (P.getD i 0).toNat 0 + 1) → (∀ x ∈ out ++ [v], 0 ≤ x ∧ x ≤ ((out ++ [v]).length : Int)) ∧ impl_DepthsOf.l0 k (out ++ [v]) P (P.length : Int) ((i + 1 : Nat) : Int) = some (dps out (P.drop i), true) := by
      intro v hv
      have hb : ∀ x ∈ out ++ [v], 0 ≤ x ∧ x ≤ ((out ++ [v]).length : Int) := by
        have := dps_b [P.getD i 0] out h3
        simp only [dps] at this
        rw [hv]; exact this
      refine ⟨hb, ?_⟩
      rw [ih (i + 1) k _ (by omega) (by rw [List.length_append, h2]; rfl) hb (by omega), List.drop_eq_getElem_cons hi, dps, ← getD_lt P i hi, hv]
    rw [impl_DepthsOf.l0, if_pos (rl _ _ hi), if_pos (Int.natCast_nonneg i), if_pos (rl _ _ hi), rdg, rw_suc i (by omega)]
    by_cases c : P.getD i 0 < 0
    · rw [if_pos c, if_pos (by omega)]
      exact (nx 0 (by rw [if_pos c])).2
    · have c2 : (P.getD i 0).toNat < out.length := by omega
      have hx := h3 _ (List.getElem_mem c2)
      have e : rd out (P.getD i 0) = out.getD (P.getD i 0).toNat 0 := rfl
      rw [if_neg c, if_pos (by omega), if_pos (by omega), if_pos (by omega), e, up_w _ (by rw [getD_lt _ _ c2]; omega)]
      exact (nx _ (by rw [if_neg c])).2
theorem depS_l (P : List Int) (hl : P.length ≤ 900) (hP : ∀ i, i < P.length → P.getD i 0 < i) (d : Nat) : ∀ (i k : Nat) (out : List Int), i + d = P.length → out.length = i → (∀ x ∈ out, 0 ≤ x ∧ x ≤ (out.length : Int)) → d < k →
    spec_cyDepths.l0 k (out ++ List.replicate d 0) P (P.length : Int) (i : Int) = some (dps out (P.drop i)) := by
  induction d with
  | zero =>
    intro i k out h1 h2 h3 h4
    obtain ⟨k, rfl⟩ : ∃ m, k = m + 1 := ⟨k - 1, by omega⟩
    rw [spec_cyDepths.l0, if_neg (by omega), List.drop_eq_nil_of_le (by omega), dps, List.replicate_zero, List.append_nil]
  | succ d ih =>
    intro i k out h1 h2 h3 h4
    obtain ⟨k, rfl⟩ : ∃ m, k = m + 1 := ⟨k - 1, by omega⟩
    have hi : i < P.length := by omega
    have hp := hP i hi
    have nx : ∀ v : Int, v = (if P.getD i 0 < 0 then 0 else out.getD (P.getD i 0).toNat 0 + 1) → spec_cyDepths.l0 k (out ++ v :: List.replicate d 0) P (P.length : Int) ((i + 1 : Nat) : Int) = some (dps out (P.drop i)) := by
      intro v hv
      have hb : ∀ x ∈ out ++ [v], 0 ≤ x ∧ x ≤ ((out ++ [v]).length : Int) := by
        have := dps_b [P.getD i 0] out h3
        simp only [dps] at this
        rw [hv]; exact this
      have := ih (i + 1) k (out ++ [v]) (by omega) (by rw [List.length_append, h2]; rfl) hb (by omega)
      rw [List.append_assoc] at this
      have this : spec_cyDepths.l0 k (out ++ v :: List.replicate d 0) P (P.length : Int) ((i + 1 : Nat) : Int) = _ := this
      rw [this, List.drop_eq_getElem_cons hi, dps, ← getD_lt P i hi, hv]
    have hol : (out ++ List.replicate (d + 1) 0).length = P.length := by simp; omega
    rw [spec_cyDepths.l0, if_pos (rl _ _ hi), if_pos (Int.natCast_nonneg i), if_pos (rl _ _ hi), rdg, rw_suc i (by omega)]
    by_cases c : P.getD i 0 < 0
    · rw [if_neg (by omega), rep_succ]
      exact nx 0 (by rw [if_pos c])
    · have c2 : (P.getD i 0).toNat < out.length := by omega
      have hx := h3 _ (List.getElem_mem c2)
      have e : rd (out ++ List.replicate (d + 1) 0) (P.getD i 0) = out.getD (P.getD i 0).toNat 0 := getD_app _ _ _ c2
      rw [if_pos (by omega), if_pos (by omega), if_pos (by omega), if_pos (by omega), e, up_w _ (by rw [getD_lt _ _ c2]; omega), rep_succ, set_mid _ _ _ _ _ h2]
      exact nx _ (by rw [if_neg c])
/-! ### Mirrored -/
def cks : F → List (List Int)
  | .nil => []
  | .cons c r => ((F.len c : Int) :: F.pre (F.mir c)) :: cks r
theorem cks_len : ∀ g : F, (cks g).length = F.len g
  | .nil => rfl
  | .cons c r => by simp [cks, F.len, cks_len r]
theorem cks_flat : ∀ g : F, (cks g).reverse.flatten = F.pre (F.mir g)
  | .nil => rfl
  | .cons c r => by
    have := cks_flat r
    rw [cks, List.reverse_cons, List.flatten_append, this, F.pre_mir]
    simp
theorem chunksI (G : List Int → Option (List Int)) (n : Nat) (hn : n ≤ 400) (hG : ∀ c : F, F.size c < n → G (F.pre c) = some (F.pre (F.mir c))) : ∀ g : F, F.size g ≤ n → chunks G (F.trs g) = some (cks g)
  | .nil, _ => rfl
  | .cons c r, h => by
    simp only [F.size] at h
    rw [F.trs, chunks, if_pos (by simp), List.drop_succ_cons, List.drop_zero, hG c (by omega), Option.bind_some, if_pos (by rw [F.pre_len, F.mir_size]; omega), chunksI G n hn hG r (by omega), Option.bind_some]
    rfl
theorem mirroredI (n : Nat) : ∀ g : F, F.size g ≤ n → n ≤ 400 → ∀ k, 1001 + n < k → impl_mirrored.f k (F.pre g) = some (F.pre (F.mir g)) := by
  induction n with
  | zero =>
    intro g hg hn k hk
    obtain ⟨k, rfl⟩ : ∃ m, k = m + 1 := ⟨k - 1, by omega⟩
    cases g with
    | cons c r => simp [F.size] at hg
    | nil =>
      rw [impl_mirrored.f, treesInI F.nil (by simp [F.size]) k (by omega), Option.bind_some]
      rfl
  | succ n ih =>
    intro g hg hn k hk
    obtain ⟨k, rfl⟩ : ∃ m, k = m + 1 := ⟨k - 1, by omega⟩
    have h2 := F.len_size g
    rw [impl_mirrored.f, treesInI g (by omega) k (by omega), Option.bind_some, if_pos (by rw [F.trs_len]; omega), chunksI _ (n + 1) hn (fun c hc => ih c (by omega) (by omega) k (by omega)) g hg, Option.bind_some, cks_flat]
theorem cks_get : ∀ (g : F) (j : Nat), j < F.len g → ∃ c : F, F.size c < F.size g ∧ (F.trs g).getD j [] = (F.len c : Int) :: F.pre c ∧ (cks g)[j]? = some ((F.len c : Int) :: F.pre (F.mir c))
  | .nil, j, h => absurd h (by simp [F.len])
  | .cons c r, j, h => by
    cases j with
    | zero => exact ⟨c, by simp only [F.size]; omega, rfl, rfl⟩
    | succ j =>
      obtain ⟨c', e1, e2, e3⟩ := cks_get r j (by simp only [F.len] at h; omega)
      exact ⟨c', by simp only [F.size]; omega, by rw [F.trs, List.getD_cons_succ]; exact e2, by rw [cks, List.getElem?_cons_succ]; exact e3⟩
theorem mirS_l (g : F) (n : Nat) (hg : F.size g ≤ n) (hn : n ≤ 400) (K : Nat) (ih : ∀ c : F, F.size c < n → ∀ k, K < k → spec_cyMirror.f k (F.pre c) = some (F.pre (F.mir c))) :
    ∀ (j : Nat), j ≤ F.len g → ∀ (k : Nat) (out : List Int), out.length + 401 * j ≤ 1000000 → K + j + 2 < k → spec_cyMirror.l0 k out (F.trs g) ((j : Int) - 1) = some (out ++ ((cks g).take j).reverse.flatten)
  | 0, _, k, out, _, hk => by
    obtain ⟨k, rfl⟩ : ∃ m, k = m + 1 := ⟨k - 1, by omega⟩
    rw [spec_cyMirror.l0, if_neg (by simp)]; simp
  | j + 1, hj, k, out, ho, hk => by
    obtain ⟨k, rfl⟩ : ∃ m, k = m + 1 := ⟨k - 1, by omega⟩
    obtain ⟨c, e1, e2, e3⟩ := cks_get g j (by omega)
    have hl := F.len_size g
    have er : rd_L2 (F.trs g) (j : Int) = (F.len c : Int) :: F.pre c := by unfold rd_L2; rw [Int.toNat_natCast]; exact e2
    have ez : (F.pre (F.mir c)).length ≤ 400 := by rw [F.pre_len, F.mir_size]; omega
    rw [show ((j + 1 : Nat) : Int) - 1 = (j : Int) by omega, spec_cyMirror.l0, if_pos (by omega), if_pos (by omega), if_pos (by rw [F.trs_len]; omega), er, if_pos (by rw [List.length_cons]; omega), if_pos (by omega), Option.bind_some, if_pos (by rw [List.length_cons]; omega), List.drop_succ_cons, List.drop_zero, ih c (by omega) k (by omega), Option.bind_some, if_pos (by rw [List.length_append, List.length_singleton]; omega), dc_w _ (by omega)]
    rw [mirS_l g n hg hn K ih j (by omega) k _ (by rw [List.length_append, List.length_append]; simp; omega) (by omega)]
    rw [List.take_add_one, e3, List.reverse_append, List.flatten_append]
    simp [rd]
set_option maxRecDepth 20000 in
theorem mirroredS (n : Nat) : ∀ g : F, F.size g ≤ n → n ≤ 400 → ∀ k, 1003 + 500 * n < k → spec_cyMirror.f k (F.pre g) = some (F.pre (F.mir g)) := by
  induction n with
  | zero =>
    intro g hg hn k hk
    obtain ⟨k, rfl⟩ : ∃ m, k = m + 2 := ⟨k - 2, by omega⟩
    cases g with
    | cons c r => simp [F.size] at hg
    | nil =>
      rw [spec_cyMirror.f, cyTreesS F.nil (by simp [F.size]) (k + 1) (by omega), Option.bind_some, show F.trs F.nil = [] from rfl, show wrap64 (((([] : List (List Int)).length : Nat) : Int) - 1) = -1 from w64 (by simp) (by simp), spec_cyMirror.l0, if_neg (by decide)]
      rfl
  | succ n ih =>
    intro g hg hn k hk
    obtain ⟨k, rfl⟩ : ∃ m, k = m + 1 := ⟨k - 1, by omega⟩
    have h2 := F.len_size g
    obtain ⟨K, hK⟩ : ∃ K, K = 1003 + 500 * n := ⟨_, rfl⟩
    have q2 : 1000 < k := by clear ih; omega
    have ih2 : ∀ c : F, F.size c < n + 1 → ∀ k, K < k → spec_cyMirror.f k (F.pre c) = some (F.pre (F.mir c)) := fun c hc k hk => ih c (by omega) (by omega) k (by omega)
    have q := mirS_l g (n + 1) hg hn K ih2 (F.len g) (Nat.le_refl _) k [] (by simp only [List.length_nil]; omega) (by omega)
    have q3 : wrap64 ((F.len g : Int) - 1) = (F.len g : Int) - 1 := w64 (by omega) (by omega)
    rw [spec_cyMirror.f, cyTreesS g (by omega) k q2, Option.bind_some, F.trs_len, q3, q]
    rw [List.nil_append, List.take_of_length_le (by rw [cks_len]; exact Nat.le_refl _), cks_flat]

/-! ### Forests are what the sums tell -/
theorem ps_map (L : List Int) : ∀ j : Nat, j ≤ L.length → ps L j = ((L.take j).map fun x => x - 1).sum
  | 0, _ => by simp [ps]
  | j + 1, h => by
    rw [ps, ps_map L j (by omega), List.take_add_one, List.getElem?_eq_getElem (by omega), getD_lt L j (by omega), List.map_append, List.sum_append]
    simp only [Option.toList_some, List.map_cons, List.map_nil, List.sum_cons, List.sum_nil, Int.add_zero]
theorem sum_map1 : ∀ L : List Int, (L.map fun x => x - 1).sum = L.sum - (L.length : Int)
  | [] => rfl
  | x :: L => by
    have := sum_map1 L
    simp only [List.map_cons, List.sum_cons, List.length_cons, this]
    omega
theorem fst_okp (L : List Int) (h : 1 ≤ L.length) : fst L = true ↔ F.okp (exc L) L := by
  rw [F.okp_ps, sum_map1]
  unfold fst
  rw [Bool.and_eq_true, decide_eq_true_eq, List.all_eq_true]
  constructor
  · rintro ⟨h1, h2⟩
    refine ⟨by unfold exc; omega, fun j hj => ?_⟩
    cases j with
    | zero => simp; omega
    | succ j =>
      have := h2 j (List.mem_range.mpr (by omega))
      unfold ok1 at this
      rw [decide_eq_true_eq, ps_map L (j + 1) (by omega)] at this
      exact this
  · rintro ⟨_, h2⟩
    refine ⟨by have := h2 0 (by omega); simp at this; omega, fun j hj => ?_⟩
    have hj := List.mem_range.mp hj
    unfold ok1
    rw [decide_eq_true_eq, ps_map L (j + 1) (by omega)]
    exact h2 (j + 1) (by omega)
theorem fst_pre (L : List Int) (h : deg L = true) (hf : fst L = true) : ∃ g : F, g ≠ .nil ∧ L = F.pre g ∧ (F.len g : Int) = exc L := by
  obtain ⟨⟨h1, h2⟩, h3⟩ := (deg_iff L).mp h
  obtain ⟨g, e1, e2⟩ := F.parse L (fun x hx => (h3 x hx).1) (exc L) ((fst_okp L h1).mp hf)
  refine ⟨g, ?_, e1, e2⟩
  rintro rfl
  rw [e1] at h1
  simp [F.pre] at h1
theorem exc_pre (g : F) : exc (F.pre g) = F.len g := by
  unfold exc
  rw [F.pre_len, F.pre_sum]; omega
theorem pre_fst (g : F) (h : g ≠ .nil) : fst (F.pre g) = true := by
  rw [fst_okp _ (by rw [F.pre_len]; exact (F.ne_nil2 g).mp h), exc_pre]
  have := (F.okp_pre g 0 [] (Int.le_refl _)).mpr rfl
  rw [List.append_nil, Int.add_zero] at this
  exact this
theorem pre_deg (g : F) (h : g ≠ .nil) (hs : F.size g ≤ 16) : deg (F.pre g) = true := by
  rw [deg_iff, F.pre_len]
  exact ⟨⟨(F.ne_nil2 g).mp h, hs⟩, fun x hx => ⟨F.pre_nn g x hx, by have := F.pre_le g x hx; omega⟩⟩
def fs (L : List Int) : Bool := deg L && fst L
theorem fs_pre (g : F) (h : g ≠ .nil) (hs : F.size g ≤ 16) : fs (F.pre g) = true := by unfold fs; rw [pre_deg g h hs, pre_fst g h]; rfl
theorem areI (L : List Int) (k : Nat) (hk : 1000 < k) : impl_areForest.f k L = some (fs L) := by
  unfold impl_areForest.f fs
  rw [isDeg_eq L k hk, Option.bind_some]
  by_cases h : deg L = true
  · rw [if_pos h, foI L h k hk, h]; rfl
  · rw [if_neg h, Bool.eq_false_iff.mpr h]; rfl
theorem areS (L : List Int) (k : Nat) (hk : 1000 < k) : spec_cyIs.f k L = some (fs L) := by
  unfold spec_cyIs.f fs
  rw [cyGood_eq L k hk, Option.bind_some]
  by_cases h : deg L = true
  · rw [if_pos h, foS L h k hk, h]; rfl
  · rw [if_neg h, Bool.eq_false_iff.mpr h]; rfl
theorem isForI (L : List Int) (k : Nat) (hk : 3000 < k) : impl_IsForest.f k L = some (fs L, deg L) := by
  unfold impl_IsForest.f fs
  rw [isDeg_eq L k (by omega), Option.bind_some]
  by_cases h : deg L = true
  · rw [if_pos h, foI L h k (by omega), h]; rfl
  · rw [if_neg h, Bool.eq_false_iff.mpr h]; rfl
theorem isForS (L : List Int) (k : Nat) (hk : 3000 < k) : spec_IsForest.f k L = some (fs L, deg L) := by
  unfold spec_IsForest.f fs
  rw [cyGood_eq L k (by omega), Option.bind_some]
  by_cases h : deg L = true
  · rw [if_pos h, foS L h k (by omega), h]; rfl
  · rw [if_neg h, Bool.eq_false_iff.mpr h]; rfl

/-! ### Counts of degrees, and how many orders they have -/
def fac : Nat → Nat
  | 0 => 1
  | n + 1 => (n + 1) * fac n
def ch : Nat → Nat → Nat
  | _, 0 => 1
  | 0, _ + 1 => 0
  | n + 1, k + 1 => ch n k + ch n (k + 1)
theorem ch_tab : ∀ a : Fin 17, ∀ b : Fin 17, b.1 ≤ a.1 → (impl_choose.f 40 (a.1 : Int) (b.1 : Int) = some ((ch a.1 b.1 : Nat) : Int) ∧ spec_paChoose.f 600 (a.1 : Int) (b.1 : Int) = some ((ch a.1 b.1 : Nat) : Int)) ∧ ch a.1 b.1 * fac b.1 * fac (a.1 - b.1) = fac a.1 ∧ (1 ≤ b.1 → b.1 < a.1 → a.1 ≤ ch a.1 b.1) := by decide +kernel
theorem chI (a b : Nat) (ha : a ≤ 16) (hb : b ≤ a) (k : Nat) (hk : 40 ≤ k) : impl_choose.f k (a : Int) (b : Int) = some ((ch a b : Nat) : Int) :=
  up' (fun k => impl_choose.f k (a : Int) (b : Int)) (fun k => impl_choose.mono _ _ k) (ch_tab ⟨a, by omega⟩ ⟨b, by omega⟩ hb).1.1 k hk
theorem chS (a b : Nat) (ha : a ≤ 16) (hb : b ≤ a) (k : Nat) (hk : 600 ≤ k) : spec_paChoose.f k (a : Int) (b : Int) = some ((ch a b : Nat) : Int) :=
  up' (fun k => spec_paChoose.f k (a : Int) (b : Int)) (fun k => spec_paChoose.mono _ _ k) (ch_tab ⟨a, by omega⟩ ⟨b, by omega⟩ hb).1.2 k hk
theorem ch_fac (a b : Nat) (ha : a ≤ 16) (hb : b ≤ a) : ch a b * fac b * fac (a - b) = fac a := (ch_tab ⟨a, by omega⟩ ⟨b, by omega⟩ hb).2.1
theorem fac_pos : ∀ n, 1 ≤ fac n
  | 0 => Nat.le_refl _
  | n + 1 => Nat.mul_pos (by omega) (fac_pos n)
theorem fac_16 : ∀ n : Fin 17, fac n.1 ≤ 20922789888000 := by decide +kernel
def mI : Nat → List Nat → Nat
  | _, [] => 1
  | n, c :: C => ch n c * mI (n - c) C
def mS : Nat → List Nat → Nat
  | _, [] => 1
  | n, c :: C => ch (n + c) c * mS (n + c) C
def pf : List Nat → Nat
  | [] => 1
  | c :: C => fac c * pf C
theorem pf_pos : ∀ C, 1 ≤ pf C
  | [] => Nat.le_refl _
  | c :: C => Nat.mul_pos (fac_pos c) (pf_pos C)
theorem mI_fac : ∀ (C : List Nat) (n : Nat), C.sum ≤ n → n ≤ 16 → mI n C * pf C * fac (n - C.sum) = fac n
  | [], n, _, _ => by simp [mI, pf]
  | c :: C, n, h, hn => by
    rw [List.sum_cons] at h ⊢
    have ih := mI_fac C (n - c) (by omega) (by omega)
    have e := ch_fac n c hn (by omega)
    rw [show n - c - C.sum = n - (c + C.sum) by omega] at ih
    rw [← e, ← ih, mI, pf]
    simp only [Nat.mul_assoc, Nat.mul_comm, Nat.mul_left_comm]
theorem mS_fac : ∀ (C : List Nat) (n : Nat), n + C.sum ≤ 16 → mS n C * pf C * fac n = fac (n + C.sum)
  | [], n, _ => by simp [mS, pf]
  | c :: C, n, h => by
    rw [List.sum_cons] at h ⊢
    have ih := mS_fac C (n + c) (by omega)
    have e := ch_fac (n + c) c (by omega) (by omega)
    rw [Nat.add_sub_cancel] at e
    rw [show n + (c + C.sum) = n + c + C.sum by omega, ← ih, ← e, mS, pf]
    simp only [Nat.mul_assoc, Nat.mul_comm, Nat.mul_left_comm]
theorem mI_mS (C : List Nat) (h : C.sum ≤ 16) : mI C.sum C = mS 0 C := by
  have e1 := mI_fac C C.sum (Nat.le_refl _) h
  have e2 := mS_fac C 0 (by omega)
  rw [Nat.sub_self, show fac 0 = 1 from rfl, Nat.mul_one] at e1
  rw [Nat.zero_add, show fac 0 = 1 from rfl, Nat.mul_one, ← e1] at e2
  exact (Nat.eq_of_mul_eq_mul_right (pf_pos C) e2).symm
theorem ch_pos (a b : Nat) (ha : a ≤ 16) (hb : b ≤ a) : 1 ≤ ch a b := by
  apply Nat.pos_of_ne_zero
  intro h
  have e := ch_fac a b ha hb
  have := fac_pos a
  rw [h, Nat.zero_mul, Nat.zero_mul] at e
  omega
theorem mI_pos : ∀ (C : List Nat) (n : Nat), C.sum ≤ n → n ≤ 16 → 1 ≤ mI n C
  | [], _, _, _ => Nat.le_refl _
  | c :: C, n, h, hn => by
    rw [List.sum_cons] at h
    exact Nat.mul_pos (ch_pos n c hn (by omega)) (mI_pos C (n - c) (by omega) (by omega))
theorem mS_pos : ∀ (C : List Nat) (n : Nat), n + C.sum ≤ 16 → 1 ≤ mS n C
  | [], _, _ => Nat.le_refl _
  | c :: C, n, h => by
    rw [List.sum_cons] at h
    exact Nat.mul_pos (ch_pos (n + c) c (by omega) (by omega)) (mS_pos C (n + c) (by omega))
theorem mI_b (C : List Nat) (h : C.sum ≤ 16) : mI C.sum C ≤ 20922789888000 := by
  have e1 := mI_fac C C.sum (Nat.le_refl _) h
  have h2 := fac_16 ⟨C.sum, by omega⟩
  have h3 : fac C.sum ≤ 20922789888000 := h2
  rw [Nat.sub_self, show fac 0 = 1 from rfl, Nat.mul_one] at e1
  have := Nat.le_mul_of_pos_right (mI C.sum C) (pf_pos C)
  omega
theorem mul_w (a b : Nat) (h : a * b ≤ 1000000000000000) : wrap64 ((a : Int) * (b : Int)) = ((a * b : Nat) : Int) := by
  rw [← Int.natCast_mul]
  exact w64 (by omega) (by omega)
def up1 (C : List Nat) : List Int := C.map fun n : Nat => (n : Int)
theorem up1_len (C : List Nat) : (up1 C).length = C.length := by simp [up1]
theorem up1_get (C : List Nat) (i : Nat) : (up1 C).getD i 0 = ((C.getD i 0 : Nat) : Int) := by
  unfold up1
  rw [List.getD_eq_getElem?_getD, List.getD_eq_getElem?_getD, List.getElem?_map]
  cases C[i]? <;> rfl
theorem drop_nat (C : List Nat) (i : Nat) (h : i < C.length) : C.drop i = C.getD i 0 :: C.drop (i + 1) := by
  rw [List.drop_eq_getElem_cons h, List.getD_eq_getElem?_getD, List.getElem?_eq_getElem h]; rfl
theorem cfI_l (C : List Nat) (hC : C.sum ≤ 16) (hl : C.length ≤ 17) (N r : Nat) (hN : 1 ≤ N) (hr : r ≤ 16) (M : Nat) (hM : M ≤ 20922789888000) (d : Nat) : ∀ (i left W k : Nat), i + d = C.length → (C.drop i).sum ≤ left → left ≤ 16 → W * mI left (C.drop i) = M → 100 + d < k →
    impl_CountForests.l0 k (N : Int) (r : Int) (W : Int) (left : Int) (up1 C) ((up1 C).length : Int) (i : Int) = some (((r * M / N : Nat) : Int), true) := by
  induction d with
  | zero =>
    intro i left W k h1 h2 h3 h4 h5
    obtain ⟨k, rfl⟩ : ∃ m, k = m + 1 := ⟨k - 1, by omega⟩
    rw [List.drop_eq_nil_of_le (by omega), mI, Nat.mul_one] at h4
    subst h4
    have hb : r * W ≤ 16 * 20922789888000 := Nat.mul_le_mul hr hM
    rw [impl_CountForests.l0, if_neg (by rw [up1_len]; omega), if_neg (by omega), mul_w r W (by omega), Int.tdiv_eq_ediv_of_nonneg (Int.natCast_nonneg _), ← Int.natCast_ediv]
    have hd : r * W / N ≤ r * W := Nat.div_le_self _ _
    obtain ⟨Z, hZ⟩ : ∃ Z, Z = r * W / N := ⟨_, rfl⟩
    rw [← hZ] at hd ⊢
    rw [w64 (by omega) (by omega)]
  | succ d ih =>
    intro i left W k h1 h2 h3 h4 h5
    obtain ⟨k, rfl⟩ : ∃ m, k = m + 1 := ⟨k - 1, by omega⟩
    have hi : i < C.length := by omega
    rw [drop_nat C i hi, List.sum_cons] at h2
    rw [drop_nat C i hi, mI, ← Nat.mul_assoc] at h4
    have hp := mI_pos (C.drop (i + 1)) (left - C.getD i 0) (by omega) (by omega)
    have hb : W * ch left (C.getD i 0) ≤ M := by rw [← h4]; exact Nat.le_mul_of_pos_right _ hp
    rw [impl_CountForests.l0, if_pos (by rw [up1_len]; omega), if_pos (by omega), if_pos (by rw [up1_len]; omega), rdg, up1_get, chI left _ h3 (by omega) k (by omega), Option.bind_some, mul_w _ _ (by omega), rw_suc i (by omega), w64 (by omega) (by omega), show (left : Int) - ((C.getD i 0 : Nat) : Int) = ((left - C.getD i 0 : Nat) : Int) by omega]
    exact ih (i + 1) _ _ k (by omega) (by omega) (by omega) h4 (by omega)

theorem coS_l (C : List Nat) (hC : C.sum ≤ 16) (hl : C.length ≤ 17) (M : Nat) (hM : M ≤ 20922789888000) (d : Nat) : ∀ (i n W k : Nat), i + d = C.length → n + (C.drop i).sum ≤ 16 → W * mS n (C.drop i) = M → d + 1000 < k →
    spec_cyOrders.l0 k (W : Int) (n : Int) (up1 C) ((up1 C).length : Int) (i : Int) = some (M : Int) := by
  induction d with
  | zero =>
    intro i n W k h1 h2 h4 h5
    obtain ⟨k, rfl⟩ : ∃ m, k = m + 1 := ⟨k - 1, by omega⟩
    rw [List.drop_eq_nil_of_le (by omega), mS, Nat.mul_one] at h4
    subst h4
    rw [spec_cyOrders.l0, if_neg (by rw [up1_len]; omega)]
  | succ d ih =>
    intro i n W k h1 h2 h4 h5
    obtain ⟨k, rfl⟩ : ∃ m, k = m + 1 := ⟨k - 1, by omega⟩
    have hi : i < C.length := by omega
    rw [drop_nat C i hi, List.sum_cons] at h2
    rw [drop_nat C i hi, mS, ← Nat.mul_assoc] at h4
    have hp := mS_pos (C.drop (i + 1)) (n + C.getD i 0) (by omega)
    have hb : W * ch (n + C.getD i 0) (C.getD i 0) ≤ M := by rw [← h4]; exact Nat.le_mul_of_pos_right _ hp
    have hk : 600 ≤ k := by omega
    have hc := chS (n + C.getD i 0) (C.getD i 0) (by omega) (by omega) k hk
    have q : (i : Int) < ((up1 C).length : Int) := by rw [up1_len]; omega
    have q2 : (0 : Int) ≤ (i : Int) := Int.natCast_nonneg i
    have e3 := mul_w W (ch (n + C.getD i 0) (C.getD i 0)) (Nat.le_trans hb (Nat.le_trans hM (by decide)))
    have e4 := rw_suc i (by omega)
    have e5 := ih (i + 1) (n + C.getD i 0) (W * ch (n + C.getD i 0) (C.getD i 0)) k (by omega) (by omega) h4 (by omega)
    have ew : wrap64 ((n : Int) + ((C.getD i 0 : Nat) : Int)) = ((n + C.getD i 0 : Nat) : Int) := by rw [w64 (by omega) (by omega)]; clear e3 e4 e5; omega
    rw [spec_cyOrders.l0, if_pos q, if_pos q2, if_pos q, rdg, up1_get, ew, hc, Option.bind_some, e3, e4]
    exact e5
/-! The nodes below others -/
def bl : Nat → List Nat → Nat
  | _, [] => 0
  | i, c :: C => i * c + bl (i + 1) C
theorem bl_sum : ∀ (C : List Nat) (i : Nat), i * C.sum ≤ bl i C
  | [], i => by simp [bl]
  | c :: C, i => by
    have := bl_sum C (i + 1)
    rw [List.sum_cons, bl, Nat.mul_add]
    rw [Nat.add_mul, Nat.one_mul] at this
    omega
theorem bl_b : ∀ (C : List Nat) (i : Nat), bl i C ≤ (i + C.length) * C.sum
  | [], i => by simp [bl]
  | c :: C, i => by
    have := bl_b C (i + 1)
    rw [List.sum_cons, bl, Nat.mul_add, List.length_cons]
    have h2 : i * c ≤ (i + (C.length + 1)) * c := Nat.mul_le_mul_right _ (by omega)
    rw [show i + 1 + C.length = i + (C.length + 1) by omega] at this
    omega
/-- At least as many orders as nodes, where there is a tree. -/
theorem orders_big (C : List Nat) (h : C.sum ≤ 16) (h0 : 1 ≤ C.sum) (hr : bl 0 C < C.sum) : C.sum ≤ (C.sum - bl 0 C) * mI C.sum C := by
  cases C with
  | nil => simp at h0
  | cons c C =>
    have b1 := bl_sum C 1
    rw [Nat.one_mul] at b1
    have eb : bl 0 (c :: C) = bl 1 C := by simp [bl]
    rw [eb] at hr ⊢
    rw [List.sum_cons] at h h0 hr ⊢
    have hp := mI_pos C (c + C.sum - c) (by omega) (by omega)
    by_cases hz : C.sum = 0
    · have b2 := bl_b C 1
      rw [hz, Nat.mul_zero] at b2
      have := mI_pos (c :: C) (c + C.sum) (by rw [List.sum_cons]; exact Nat.le_refl _) (by omega)
      rw [show c + C.sum - bl 1 C = c + C.sum by omega]
      exact Nat.le_mul_of_pos_right _ this
    · have e1 : c + C.sum ≤ ch (c + C.sum) c := (ch_tab ⟨c + C.sum, by omega⟩ ⟨c, by omega⟩ (by show c ≤ c + C.sum; omega)).2.2 (by show 1 ≤ c; omega) (by show c < c + C.sum; omega)
      rw [mI]
      have e2 : ch (c + C.sum) c ≤ ch (c + C.sum) c * mI (c + C.sum - c) C := Nat.le_mul_of_pos_right _ hp
      have e3 : ch (c + C.sum) c * mI (c + C.sum - c) C ≤ (c + C.sum - bl 1 C) * (ch (c + C.sum) c * mI (c + C.sum - c) C) := Nat.le_mul_of_pos_left _ (by omega)
      omega

/-! ### The nodes of counts -/
theorem ndI_bad (C : List Int) (hl : C.length ≤ 20) (d : Nat) : ∀ (i k : Nat) (a b : Int), i + d = C.length → (C.drop i).all inD = false → d < k → impl_nodesOf.l0 k a b C (C.length : Int) (i : Int) = some (0, 0, false) := by
  induction d with
  | zero =>
    intro i k a b h1 h2 h3
    rw [List.drop_eq_nil_of_le (by omega)] at h2
    cases h2
  | succ d ih =>
    intro i k a b h1 h2 h3
    obtain ⟨k, rfl⟩ : ∃ m, k = m + 1 := ⟨k - 1, by omega⟩
    have hi : i < C.length := by omega
    rw [List.drop_eq_getElem_cons hi, List.all_cons, ← getD_lt C i hi] at h2
    have e4 := rw_suc i (by omega)
    have f : inD (C.getD i 0) = true → ∀ a b, impl_nodesOf.l0 k a b C (C.length : Int) ((i + 1 : Nat) : Int) = some (0, 0, false) := fun c a b => ih (i + 1) k a b (by omega) (by rw [c, Bool.true_and] at h2; exact h2) (by omega)
    rw [impl_nodesOf.l0, if_pos (rl _ _ hi), if_pos (Int.natCast_nonneg i), if_pos (rl _ _ hi), in_d, Option.bind_some, rdg, e4]
    show (if inD (C.getD i 0) = true then _ else _) = _
    by_cases c : inD (C.getD i 0) = true
    · rw [if_pos c]
      exact f c _ _
    · rw [if_neg c]
theorem bl_w (N B : Nat) (h : N ≤ 10000) (h2 : B ≤ 10000) : wrap64 ((N : Int) - (B : Int)) = (N : Int) - (B : Int) := w64 (by omega) (by omega)
theorem add_w (a b : Nat) (h : a + b ≤ 1000000) : wrap64 ((a : Int) + (b : Int)) = ((a + b : Nat) : Int) := by rw [w64 (by omega) (by omega)]; omega
theorem ndI_ok (C : List Nat) (hl : C.length ≤ 17) (hC : ∀ x ∈ C, x ≤ 16) (d : Nat) : ∀ (i k a b : Nat), i + d = C.length → a ≤ 16 * i → b ≤ 300 * i → d < k →
    impl_nodesOf.l0 k (a : Int) (b : Int) (up1 C) ((up1 C).length : Int) (i : Int) = some (((a + (C.drop i).sum : Nat) : Int), ((a + (C.drop i).sum : Nat) : Int) - ((b + bl i (C.drop i) : Nat) : Int), decide (1 ≤ a + (C.drop i).sum) && decide (a + (C.drop i).sum ≤ 16)) := by
  induction d with
  | zero =>
    intro i k a b h1 h2 h3 h4
    obtain ⟨k, rfl⟩ : ∃ m, k = m + 1 := ⟨k - 1, by omega⟩
    have e := bl_w a b (by omega) (by omega)
    rw [List.drop_eq_nil_of_le (by omega), impl_nodesOf.l0, if_neg (by rw [up1_len]; omega), in_d, Option.bind_some, e, List.sum_nil, bl]
    have e1 : decide ((1 : Int) ≤ (a : Int)) = decide (1 ≤ a + 0) := decide_eq_decide.mpr (by omega)
    have e2 : decide ((a : Int) ≤ 16) = decide (a + 0 ≤ 16) := decide_eq_decide.mpr (by omega)
    rw [e1, e2]
    rfl
  | succ d ih =>
    intro i k a b h1 h2 h3 h4
    obtain ⟨k, rfl⟩ : ∃ m, k = m + 1 := ⟨k - 1, by omega⟩
    have hi : i < C.length := by omega
    have hx : C.getD i 0 ≤ 16 := by rw [List.getD_eq_getElem?_getD, List.getElem?_eq_getElem hi]; exact hC _ (List.getElem_mem hi)
    have hm : i * C.getD i 0 ≤ 17 * 16 := Nat.mul_le_mul (by omega) hx
    have q : (i : Int) < ((up1 C).length : Int) := by rw [up1_len]; omega
    have q2 : (0 : Int) ≤ (i : Int) := Int.natCast_nonneg i
    have f := ih (i + 1) k (a + C.getD i 0) (b + i * C.getD i 0) (by omega) (by omega) (by omega) (by omega)
    have hin : inD ((C.getD i 0 : Nat) : Int) = true := by clear f; unfold inD; rw [decide_eq_true (by omega), decide_eq_true (by omega)]; rfl
    have b1 : a + C.getD i 0 ≤ 1000000 := by omega
    have b2 : i * C.getD i 0 ≤ 1000000000000000 := by omega
    have b3 : b + i * C.getD i 0 ≤ 1000000 := by omega
    have b4 : i ≤ 100000 := by omega
    have e1 := add_w a (C.getD i 0) b1
    have e2 := mul_w i (C.getD i 0) b2
    have e3 := add_w b (i * C.getD i 0) b3
    have e4 := rw_suc i b4
    rw [impl_nodesOf.l0, if_pos q, if_pos q2, if_pos q, in_d, Option.bind_some, rdg, up1_get]
    show (if inD ((C.getD i 0 : Nat) : Int) = true then _ else _) = _
    rw [if_pos hin, e1, e2, e3, e4, f, drop_nat C i hi, List.sum_cons, bl, Nat.add_assoc, Nat.add_assoc]
def ex : Nat → List Nat → List Int
  | _, [] => []
  | i, c :: C => List.replicate c (i : Int) ++ ex (i + 1) C
theorem ex_len : ∀ (C : List Nat) (i : Nat), (ex i C).length = C.sum
  | [], _ => rfl
  | c :: C, i => by rw [ex, List.length_append, List.length_replicate, ex_len C, List.sum_cons]
theorem rep_sum (n : Nat) (i : Nat) : (List.replicate n (i : Int)).sum = ((i * n : Nat) : Int) := by
  induction n with
  | zero => rfl
  | succ n ih => rw [List.replicate_succ, List.sum_cons, ih, Nat.mul_succ]; omega
theorem ex_sum : ∀ (C : List Nat) (i : Nat), (ex i C).sum = (bl i C : Nat)
  | [], _ => rfl
  | c :: C, i => by rw [ex, List.sum_append, rep_sum, ex_sum C, bl]; omega
theorem ex_mem : ∀ (C : List Nat) (i : Nat) (x : Int), x ∈ ex i C → (i : Int) ≤ x ∧ x < (i : Int) + (C.length : Int)
  | [], _, _, h => absurd h List.not_mem_nil
  | c :: C, i, x, h => by
    rw [ex, List.mem_append] at h
    rw [List.length_cons]
    rcases h with h | h
    · have := List.eq_of_mem_replicate h; omega
    · have := ex_mem C (i + 1) x h; omega
theorem cc_l1 (C : List Int) (N : Int) (i : Nat) (hi : i ≤ 100) : ∀ (c : Nat) (X : List Int) (k : Nat), X.length + c ≤ 1000 →
    spec_cyCounts.l1 (k + c + 1) X (i : Int) (c : Int) C N (i : Int) = if X.length + c > 16 then some ([], false) else spec_cyCounts.l0 k (X ++ List.replicate c (i : Int)) C N ((i + 1 : Nat) : Int)
  | 0, X, k, h => by
    have e4 := rw_suc i (by omega)
    rw [Nat.add_zero, spec_cyCounts.l1, if_neg (by simp), List.replicate_zero, List.append_nil, e4]
    by_cases c : X.length > 16
    · rw [if_pos (by omega), if_pos (by omega)]
    · rw [if_neg (by omega), if_neg (by omega)]
  | c + 1, X, k, h => by
    have e5 := pr_w (c + 1) (by omega) (by omega)
    have f := cc_l1 C N i hi c (X ++ [(i : Int)]) k (by rw [List.length_append, List.length_singleton]; omega)
    rw [List.length_append, List.length_singleton] at f
    rw [show k + (c + 1) + 1 = (k + c + 1) + 1 by omega, spec_cyCounts.l1, if_pos (by omega), if_pos (by omega), e5, Nat.add_sub_cancel, f, List.append_assoc, show X.length + 1 + c = X.length + (c + 1) by omega]
    rfl
theorem cc_l0 (C : List Nat) (hl : C.length ≤ 17) (hC : ∀ x ∈ C, x ≤ 16) (d : Nat) : ∀ (i k : Nat) (X : List Int), i + d = C.length → X.length ≤ 16 → d * 20 + 5 < k →
    spec_cyCounts.l0 k X (up1 C) ((up1 C).length : Int) (i : Int) = if X.length + (C.drop i).sum > 16 then some ([], false) else some (X ++ ex i (C.drop i), decide (X.length + (C.drop i).sum > 0)) := by
  induction d with
  | zero =>
    intro i k X h1 h2 h3
    obtain ⟨k, rfl⟩ : ∃ m, k = m + 1 := ⟨k - 1, by omega⟩
    rw [List.drop_eq_nil_of_le (by omega), spec_cyCounts.l0, if_neg (by rw [up1_len]; omega), List.sum_nil, if_neg (by omega), ex, List.append_nil]
    rw [show decide ((X.length : Int) > 0) = decide (X.length + 0 > 0) from decide_eq_decide.mpr (by omega)]
  | succ d ih =>
    intro i k X h1 h2 h3
    have hi : i < C.length := by omega
    have hx : C.getD i 0 ≤ 16 := by rw [List.getD_eq_getElem?_getD, List.getElem?_eq_getElem hi]; exact hC _ (List.getElem_mem hi)
    obtain ⟨k, rfl⟩ : ∃ m, k = (m + C.getD i 0 + 1) + 1 := ⟨k - 2 - C.getD i 0, by omega⟩
    have q : (i : Int) < ((up1 C).length : Int) := by rw [up1_len]; omega
    have q2 : (0 : Int) ≤ (i : Int) := Int.natCast_nonneg i
    rw [spec_cyCounts.l0, if_pos q, if_pos q2, if_pos q, rdg, up1_get, cc_l1 (up1 C) _ i (by omega) (C.getD i 0) X k (by omega), drop_nat C i hi, List.sum_cons, ex]
    by_cases c : X.length + C.getD i 0 > 16
    · rw [if_pos c, if_pos (by omega)]
    · rw [if_neg c, ih (i + 1) k _ (by omega) (by rw [List.length_append, List.length_replicate]; omega) (by omega), List.length_append, List.length_replicate, Nat.add_assoc, List.append_assoc]
theorem of_up1 (C : List Int) (h : C.all inD = true) : ∃ D : List Nat, C = up1 D ∧ ∀ x ∈ D, x ≤ 16 := by
  rw [List.all_eq_true] at h
  refine ⟨C.map Int.toNat, ?_, fun x hx => ?_⟩
  · unfold up1
    rw [List.map_map]
    conv => lhs; rw [← List.map_id C]
    refine List.map_congr_left fun x hx => ?_
    have := h x hx
    unfold inD at this
    simp at this
    show x = ((x.toNat : Nat) : Int)
    omega
  · obtain ⟨y, h1, rfl⟩ := List.mem_map.mp hx
    have := h y h1
    unfold inD at this
    simp at this
    omega
theorem sum_mem (C : List Nat) : ∀ x ∈ C, x ≤ C.sum := by
  induction C with
  | nil => exact fun x h => absurd h List.not_mem_nil
  | cons c C ih =>
    intro x h
    rw [List.sum_cons]
    rcases List.mem_cons.mp h with rfl | h
    · omega
    · have := ih x h; omega
theorem counts_case (C : List Int) (h : C.length ≤ 20) :
    (∃ D : List Nat, C = up1 D ∧ D.length ≤ 17 ∧ 1 ≤ D.sum ∧ D.sum ≤ 16 ∧ ∀ k, 3000 < k → impl_nodesOf.f k C = some ((D.sum : Int), (D.sum : Int) - (bl 0 D : Nat), true) ∧ spec_cyCounts.f k C = some (ex 0 D, true)) ∨
    (∃ a b L, ∀ k, 3000 < k → impl_nodesOf.f k C = some (a, b, false) ∧ spec_cyCounts.f k C = some (L, false)) := by
  have j0t : ∀ k, 3000 < k → spec_cyCounts.j0 k C true = some ([], false) := fun k hk => by
    obtain ⟨k, rfl⟩ : ∃ m, k = m + 1 := ⟨k - 1, by omega⟩
    rw [spec_cyCounts.j0, if_pos rfl]
  have hall : ∀ k, 3000 < k → spec_l1All.f k C 0 16 = some (C.all inD) := fun k hk => all_l C (by omega) C.length 0 k (by omega) (by omega)
  by_cases hl : C.length ≤ 17
  · by_cases ha : C.all inD = true
    · obtain ⟨D, rfl, hD⟩ := of_up1 C ha
      rw [up1_len] at h hl
      have e1 : ∀ k, 3000 < k → impl_nodesOf.f k (up1 D) = some ((D.sum : Int), (D.sum : Int) - (bl 0 D : Nat), decide (1 ≤ D.sum) && decide (D.sum ≤ 16)) := fun k hk => by
        have := ndI_ok D hl hD D.length 0 k 0 0 (by omega) (by omega) (by omega) (by omega)
        rw [List.drop_zero, Nat.zero_add, Nat.zero_add] at this
        unfold impl_nodesOf.f
        rw [if_neg (by rw [up1_len]; omega)]
        exact this
      have e2 : ∀ k, 3000 < k → spec_cyCounts.f k (up1 D) = if D.sum > 16 then some ([], false) else some (ex 0 D, decide (D.sum > 0)) := fun k hk => by
        unfold spec_cyCounts.f
        rw [if_neg (by rw [up1_len]; omega), hall k hk, Option.bind_some, ha]
        obtain ⟨k, rfl⟩ : ∃ m, k = m + 1 := ⟨k - 1, by omega⟩
        have := cc_l0 D hl hD D.length 0 k [] (by omega) (by simp) (by omega)
        rw [List.drop_zero, List.length_nil, Nat.zero_add, List.nil_append] at this
        show spec_cyCounts.j0 (k + 1) (up1 D) false = _
        rw [spec_cyCounts.j0, if_neg Bool.false_ne_true]
        exact this
      by_cases hs : 1 ≤ D.sum ∧ D.sum ≤ 16
      · refine .inl ⟨D, rfl, hl, hs.1, hs.2, fun k hk => ⟨?_, ?_⟩⟩
        · rw [e1 k hk, decide_eq_true hs.1, decide_eq_true hs.2]; rfl
        · rw [e2 k hk, if_neg (by omega), decide_eq_true (p := D.sum > 0) (by omega)]
      · by_cases hz : D.sum > 16
        · refine .inr ⟨(D.sum : Int), (D.sum : Int) - (bl 0 D : Nat), [], fun k hk => ⟨?_, ?_⟩⟩
          · rw [e1 k hk, decide_eq_false (p := D.sum ≤ 16) (by omega), Bool.and_false]
          · rw [e2 k hk, if_pos hz]
        · refine .inr ⟨(D.sum : Int), (D.sum : Int) - (bl 0 D : Nat), ex 0 D, fun k hk => ⟨?_, ?_⟩⟩
          · rw [e1 k hk, decide_eq_false (p := 1 ≤ D.sum) (by omega), Bool.false_and]
          · rw [e2 k hk, if_neg hz, decide_eq_false (p := D.sum > 0) (by omega)]
    · have ha := Bool.eq_false_iff.mpr ha
      refine .inr ⟨0, 0, [], fun k hk => ⟨?_, ?_⟩⟩
      · unfold impl_nodesOf.f
        rw [if_neg (by omega)]
        exact ndI_bad C h C.length 0 k 0 0 (by omega) (by rw [List.drop_zero]; exact ha) (by omega)
      · unfold spec_cyCounts.f
        rw [if_neg (by omega), hall k hk, Option.bind_some, ha]
        exact j0t k hk
  · refine .inr ⟨0, 0, [], fun k hk => ⟨?_, ?_⟩⟩
    · unfold impl_nodesOf.f
      rw [if_pos (by omega)]
    · unfold spec_cyCounts.f
      rw [if_pos (by omega)]
      exact j0t k hk

/-! ### The first forest of counts -/
theorem least (p : Nat → Bool) (n : Nat) : ∀ m, m ≤ n → p m = true → ∃ d, d ≤ m ∧ p d = true ∧ ∀ i, i < d → p i = false := by
  induction n with
  | zero =>
    intro m hm h
    obtain rfl : m = 0 := by omega
    exact ⟨0, Nat.le_refl _, h, fun i hi => by omega⟩
  | succ n ih =>
    intro m hm h
    by_cases c : ∃ i, i < m ∧ p i = true
    · obtain ⟨i, h1, h2⟩ := c
      obtain ⟨d, q1, q2, q3⟩ := ih i (by omega) h2
      exact ⟨d, by omega, q2, q3⟩
    · exact ⟨m, Nat.le_refl _, h, fun i hi => Bool.eq_false_iff.mpr fun hp => c ⟨i, hi, hp⟩⟩
/-- May this degree come next? -/
def may (X : List Nat) (s r : Int) (one : Bool) (d : Nat) : Bool := decide (0 < X.getD d 0) && (decide (-r < s + d - 1) || one)
theorem may_lt (X : List Nat) (s r : Int) (one : Bool) (d : Nat) (h : may X s r one d = true) : d < X.length ∧ 0 < X.getD d 0 := by
  unfold may at h
  rw [Bool.and_eq_true, decide_eq_true_eq] at h
  refine ⟨Nat.lt_of_not_le fun c => ?_, h.1⟩
  have := h.1
  rw [List.getD_eq_getElem?_getD, List.getElem?_eq_none c] at this
  exact absurd this (by decide)
theorem sum_at : ∀ (X : List Nat) (d : Nat), X.getD d 0 ≤ X.sum
  | [], d => by simp
  | x :: X, 0 => by rw [List.getD_cons_zero, List.sum_cons]; omega
  | x :: X, d + 1 => by have := sum_at X d; rw [List.getD_cons_succ, List.sum_cons]; omega
/-- One less at an index. -/
def less (X : List Nat) (d : Nat) : List Nat := X.set d (X.getD d 0 - 1)
theorem less_len (X : List Nat) (d : Nat) : (less X d).length = X.length := by unfold less; rw [List.length_set]
theorem less_sum : ∀ (X : List Nat) (d : Nat), 0 < X.getD d 0 → (less X d).sum + 1 = X.sum
  | [], d, h => by simp at h
  | x :: X, 0, h => by
    rw [List.getD_cons_zero] at h
    unfold less
    rw [List.getD_cons_zero, List.set_cons_zero, List.sum_cons, List.sum_cons]; omega
  | x :: X, d + 1, h => by
    rw [List.getD_cons_succ] at h
    have := less_sum X d h
    unfold less at this ⊢
    rw [List.getD_cons_succ, List.set_cons_succ, List.sum_cons, List.sum_cons]; omega
theorem less_bl : ∀ (X : List Nat) (d i : Nat), 0 < X.getD d 0 → bl i (less X d) + (i + d) = bl i X
  | [], d, i, h => by simp at h
  | x :: X, 0, i, h => by
    rw [List.getD_cons_zero] at h
    obtain ⟨y, rfl⟩ : ∃ y, x = y + 1 := ⟨x - 1, by omega⟩
    unfold less
    rw [List.getD_cons_zero, List.set_cons_zero, bl, bl, Nat.add_sub_cancel, Nat.mul_succ]; omega
  | x :: X, d + 1, i, h => by
    rw [List.getD_cons_succ] at h
    have := less_bl X d (i + 1) h
    unfold less at this ⊢
    rw [List.getD_cons_succ, List.set_cons_succ, bl, bl]; omega
theorem less_get (X : List Nat) (d e : Nat) (h : d < X.length) : (less X d).getD e 0 = if d = e then X.getD e 0 - 1 else X.getD e 0 := by
  unfold less
  by_cases c : d = e
  · subst c
    rw [if_pos rfl, List.getD_eq_getElem?_getD, List.getElem?_set_self h]; rfl
  · rw [if_neg c, List.getD_eq_getElem?_getD, List.getElem?_set_ne c, List.getD_eq_getElem?_getD]
theorem up1_less (X : List Nat) (d : Nat) (h : 0 < X.getD d 0) (hb : X.getD d 0 ≤ 100) : (up1 X).set (d : Int).toNat (wrap64 (((X.getD d 0 : Nat) : Int) - 1)) = up1 (less X d) := by
  rw [Int.toNat_natCast, pr_w _ h (by omega)]
  unfold up1 less
  rw [List.map_set]
/-- Some degree may always come next. -/
theorem may_some (X : List Nat) (s r : Int) (hs : -r < s) (h1 : 1 ≤ X.sum) (hb : s + (bl 0 X : Nat) - (X.sum : Nat) = -r) : ∃ d, may X s r (decide (X.sum = 1)) d = true := by
  have pos : ∃ d, 0 < X.getD d 0 := by
    clear hb
    induction X with
    | nil => simp at h1
    | cons x X ih =>
      by_cases c : 0 < x
      · exact ⟨0, by rw [List.getD_cons_zero]; exact c⟩
      · rw [List.sum_cons] at h1
        obtain ⟨d, hd⟩ := ih (by omega)
        exact ⟨d + 1, by rw [List.getD_cons_succ]; exact hd⟩
  by_cases c1 : X.sum = 1
  · obtain ⟨d, hd⟩ := pos
    exact ⟨d, by unfold may; rw [decide_eq_true hd, decide_eq_true c1, Bool.or_true]; rfl⟩
  · by_cases c2 : ∃ d, 1 ≤ d ∧ 0 < X.getD d 0
    · obtain ⟨d, g1, g2⟩ := c2
      exact ⟨d, by unfold may; rw [decide_eq_true g2, decide_eq_true (p := -r < s + d - 1) (by omega)]; rfl⟩
    · cases X with
      | nil => simp at h1
      | cons x X =>
        have hz : X.sum = 0 := by
          apply Nat.eq_zero_of_not_pos
          intro hp
          have : ∀ Y : List Nat, 0 < Y.sum → ∃ d, 0 < Y.getD d 0 := by
            intro Y
            induction Y with
            | nil => exact fun h => absurd h (by simp)
            | cons y Y ih =>
              intro h
              by_cases c : 0 < y
              · exact ⟨0, by rw [List.getD_cons_zero]; exact c⟩
              · rw [List.sum_cons] at h
                obtain ⟨d, hd⟩ := ih (by omega)
                exact ⟨d + 1, by rw [List.getD_cons_succ]; exact hd⟩
          obtain ⟨d, hd⟩ := this X hp
          exact c2 ⟨d + 1, by omega, by rw [List.getD_cons_succ]; exact hd⟩
        have b2 := bl_b X 1
        rw [hz, Nat.mul_zero] at b2
        have eb : bl 0 (x :: X) = bl 1 X := by simp [bl]
        rw [eb, List.sum_cons] at hb
        rw [List.sum_cons] at h1 c1
        refine ⟨0, ?_⟩
        unfold may
        rw [List.getD_cons_zero, decide_eq_true (p := 0 < x) (by omega), decide_eq_true (p := -r < s + ((0 : Nat) : Int) - 1) (by omega)]; rfl
theorem s1_w (s : Int) (d : Nat) (h : -1000 ≤ s ∧ s ≤ 1000) (hd : d ≤ 100) : wrap64 (wrap64 (s + (d : Int)) - 1) = s + (d : Int) - 1 ∧ wrap64 (s + wrap64 ((d : Int) - 1)) = s + (d : Int) - 1 := by
  refine ⟨?_, ?_⟩
  · rw [w64 (x := s + (d : Int)) (by omega) (by omega), w64 (by omega) (by omega)]
  · rw [w64 (x := (d : Int) - 1) (by omega) (by omega), w64 (by omega) (by omega)]; omega
theorem fi_l1 (N : Nat) (r : Int) (X : List Nat) (hX : X.length ≤ 17) (out : List Int) (s : Int) (hs : -1000 ≤ s ∧ s ≤ 1000) (hr : -1000 ≤ r ∧ r ≤ 1000) (hN : 1 ≤ N ∧ N ≤ 16) (ho : out.length ≤ 16) (hb : X.sum ≤ 100) (one : Bool) (h1 : one = decide ((out.length : Int) = wrap64 ((N : Int) - 1))) (d : Nat) (hd : may X s r one d = true) (e : Nat) :
    ∀ j k : Nat, j + e = d → (∀ i, j ≤ i → i < d → may X s r one i = false) →
      impl_FirstForest.l1 (k + e + 1) (N : Int) r out (up1 X) s ((up1 X).length : Int) (j : Int) = impl_FirstForest.l0 k (N : Int) r (out ++ [(d : Int)]) (up1 (less X d)) (s + (d : Int) - 1) := by
  obtain ⟨hdl, hdp⟩ := may_lt X s r one d hd
  have hdb := sum_at X d
  induction e with
  | zero =>
    intro j k hj hn
    obtain rfl : j = d := by omega
    have q : (j : Int) < ((up1 X).length : Int) := by rw [up1_len]; omega
    have q2 : (0 : Int) ≤ (j : Int) := Int.natCast_nonneg j
    have q3 : ((X.getD j 0 : Nat) : Int) > 0 := by omega
    have q4 : out.length < 17592186044416 := by omega
    have jb : j ≤ 100 := by omega
    have g1 := up1_less X j hdp (by omega)
    have g2 := neg_w r hr
    have g3 := (s1_w s j hs jb).1
    unfold may at hd
    rw [decide_eq_true hdp, Bool.true_and, Bool.or_eq_true, decide_eq_true_eq] at hd
    rw [impl_FirstForest.l1, if_pos q, if_pos q2, if_pos q, rdg, up1_get, if_pos q3, g1, g2, g3]
    by_cases c : s + (j : Int) - 1 > -r
    · rw [if_pos c, if_pos q4]
    · have c3 : (out.length : Int) = wrap64 ((N : Int) - 1) := by
        have c4 : one = true := hd.resolve_left c
        rw [h1] at c4
        exact of_decide_eq_true c4
      rw [if_neg c, if_pos c3, if_pos q4]
  | succ e ih =>
    intro j k hj hn
    have hjd : j < d := by omega
    have q : (j : Int) < ((up1 X).length : Int) := by rw [up1_len]; omega
    have q2 : (0 : Int) ≤ (j : Int) := Int.natCast_nonneg j
    have jb : j ≤ 100 := by omega
    have f := ih (j + 1) k (by omega) (fun i hi hi2 => hn i (by omega) hi2)
    have hm := hn j (Nat.le_refl _) hjd
    have g2 := neg_w r hr
    have g3 := (s1_w s j hs jb).1
    have g4 := rw_suc j (by omega)
    rw [show k + (e + 1) + 1 = (k + e + 1) + 1 by clear g2 g3 g4 f; omega, impl_FirstForest.l1, if_pos q, if_pos q2, if_pos q, rdg, up1_get, g4, f]
    by_cases c0 : ((X.getD j 0 : Nat) : Int) > 0
    · have c0' : 0 < X.getD j 0 := by clear g2 g3 g4 f; omega
      unfold may at hm
      rw [decide_eq_true c0', Bool.true_and, Bool.or_eq_false_iff, decide_eq_false_iff_not] at hm
      have c3 : ¬ (out.length : Int) = wrap64 ((N : Int) - 1) := by
        have := hm.2
        rw [h1] at this
        exact of_decide_eq_false this
      rw [if_pos c0, g2, g3, if_neg hm.1, if_neg c3]
    · rw [if_neg c0]
theorem fs_l1 (r : Int) (X : List Nat) (hX : X.length ≤ 17) (out : List Int) (s : Int) (n : Int) (hn1 : 1 ≤ n ∧ n ≤ 16) (hs : -1000 ≤ s ∧ s ≤ 1000) (hr : -1000 ≤ r ∧ r ≤ 1000) (ho : out.length ≤ 16) (hb : X.sum ≤ 100) (one : Bool) (h1 : one = decide (n = 1)) (d : Nat) (hd : may X s r one d = true) (e : Nat) :
    ∀ j k : Nat, j + e = d → (∀ i, j ≤ i → i < d → may X s r one i = false) →
      spec_FirstForest.l1 (k + e + 1) r (up1 X) out s n ((up1 X).length : Int) (j : Int) = spec_FirstForest.l0 k r (up1 (less X d)) (out ++ [(d : Int)]) (s + (d : Int) - 1) (n - 1) := by
  obtain ⟨hdl, hdp⟩ := may_lt X s r one d hd
  have hdb := sum_at X d
  induction e with
  | zero =>
    intro j k hj hn
    obtain rfl : j = d := by omega
    have q : (j : Int) < ((up1 X).length : Int) := by rw [up1_len]; omega
    have q2 : (0 : Int) ≤ (j : Int) := Int.natCast_nonneg j
    have q3 : ((X.getD j 0 : Nat) : Int) > 0 := by omega
    have q4 : out.length < 17592186044416 := by omega
    have jb : j ≤ 100 := by omega
    have g1 := up1_less X j hdp (by omega)
    have g5 := dc_w n (by omega)
    have g2 := neg_w r hr
    have g3 := (s1_w s j hs jb).1
    have g6 := (s1_w s j hs jb).2
    unfold may at hd
    rw [decide_eq_true hdp, Bool.true_and, Bool.or_eq_true, decide_eq_true_eq] at hd
    rw [spec_FirstForest.l1, if_pos q, if_pos q2, if_pos q, rdg, up1_get, if_pos q3, g1, g2, g3, g5, g6]
    by_cases c : s + (j : Int) - 1 > -r
    · rw [if_pos c, if_pos q4]
    · have c3 : n = 1 := by
        have c4 : one = true := hd.resolve_left c
        rw [h1] at c4
        exact of_decide_eq_true c4
      rw [if_neg c, if_pos c3, if_pos q4]
  | succ e ih =>
    intro j k hj hn
    have hjd : j < d := by omega
    have q : (j : Int) < ((up1 X).length : Int) := by rw [up1_len]; omega
    have q2 : (0 : Int) ≤ (j : Int) := Int.natCast_nonneg j
    have jb : j ≤ 100 := by omega
    have f := ih (j + 1) k (by omega) (fun i hi hi2 => hn i (by omega) hi2)
    have hm := hn j (Nat.le_refl _) hjd
    have g2 := neg_w r hr
    have g3 := (s1_w s j hs jb).1
    have g4 := rw_suc j (by omega)
    rw [show k + (e + 1) + 1 = (k + e + 1) + 1 by clear g2 g3 g4 f; omega, spec_FirstForest.l1, if_pos q, if_pos q2, if_pos q, rdg, up1_get, g4, f]
    by_cases c0 : ((X.getD j 0 : Nat) : Int) > 0
    · have c0' : 0 < X.getD j 0 := by clear g2 g3 g4 f; omega
      unfold may at hm
      rw [decide_eq_true c0', Bool.true_and, Bool.or_eq_false_iff, decide_eq_false_iff_not] at hm
      have c3 : ¬ n = 1 := by
        have := hm.2
        rw [h1] at this
        exact of_decide_eq_false this
      rw [if_pos c0, g2, g3, if_neg hm.1, if_neg c3]
    · rw [if_neg c0]
/-- What the list so far, the counts that are left and the sum tell. -/
structure Inv (D : List Nat) (r : Int) (out : List Int) (X : List Nat) (s : Int) : Prop where
  len : X.length = D.length
  num : out.length + X.sum = D.sum
  sum : s + (bl 0 X : Nat) - (X.sum : Nat) = -r
  low : 1 ≤ X.sum → -r < s
  cnt : ∀ d : Nat, d < D.length → out.count (d : Int) + X.getD d 0 = D.getD d 0
  mem : ∀ x ∈ out, 0 ≤ x ∧ x < (D.length : Int)
  okp : ∀ R, F.okp (r + s) R → F.okp r (out ++ R)
theorem inv_start (D : List Nat) (h1 : 1 ≤ D.sum) (r : Int) (hr : r = (D.sum : Nat) - (bl 0 D : Nat)) (hr1 : 1 ≤ r) : Inv D r [] D 0 where
  len := rfl
  num := by simp
  sum := by omega
  low := fun _ => by omega
  cnt := fun d _ => by simp
  mem := fun x h => absurd h List.not_mem_nil
  okp := fun R h => by rw [Int.add_zero] at h; exact h
theorem inv_step {D : List Nat} {r : Int} {out : List Int} {X : List Nat} {s : Int} (h : Inv D r out X s) (d : Nat) (hd : may X s r (decide (X.sum = 1)) d = true) : Inv D r (out ++ [(d : Int)]) (less X d) (s + (d : Int) - 1) := by
  obtain ⟨hdl, hdp⟩ := may_lt _ _ _ _ _ hd
  have hs := less_sum X d hdp
  have hb := less_bl X d 0 hdp
  have h2 := h.num; have h3 := h.sum; have hlen := h.len
  refine ⟨by rw [less_len]; exact h.len, by rw [List.length_append, List.length_singleton]; omega, by omega, fun hp => ?_, fun e he => ?_, fun x hx => ?_, fun R hR => ?_⟩
  · unfold may at hd
    rw [decide_eq_false (p := X.sum = 1) (by omega), Bool.or_false, Bool.and_eq_true, decide_eq_true_eq, decide_eq_true_eq] at hd
    exact hd.2
  · have := h.cnt e he
    rw [less_get X d e hdl, List.count_append, List.count_singleton]
    by_cases c : d = e
    · subst c
      rw [if_pos rfl, if_pos (by simp)]
      omega
    · rw [if_neg c, if_neg (by simp; omega)]
      omega
  · rcases List.mem_append.mp hx with hx | hx
    · exact h.mem x hx
    · obtain rfl := List.mem_singleton.mp hx
      omega
  · rw [List.append_assoc]
    refine h.okp _ ?_
    show 1 ≤ r + s ∧ F.okp (r + s - 1 + (d : Int)) R
    refine ⟨by have := h.low (by omega); omega, ?_⟩
    rw [show r + s - 1 + (d : Int) = r + (s + (d : Int) - 1) by omega]
    exact hR
theorem first_l0 (D : List Nat) (hD : D.length ≤ 17) (h16 : D.sum ≤ 16) (r : Int) (hr : 1 ≤ r ∧ r ≤ 16) (n : Nat) : ∀ (out : List Int) (X : List Nat) (s : Int), X.sum = n → Inv D r out X s →
    ∃ res, Inv D r res (List.replicate D.length 0) (-r) ∧ ∀ k, n * 30 + 5 < k → impl_FirstForest.l0 k (D.sum : Int) r out (up1 X) s = some (res, true) ∧ spec_FirstForest.l0 k r (up1 X) out s (n : Int) = some (res, true) := by
  induction n with
  | zero =>
    intro out X s hn h
    have hz : X = List.replicate D.length 0 := by
      rw [← h.len]
      clear h
      induction X with
      | nil => rfl
      | cons x X ih =>
        rw [List.sum_cons] at hn
        rw [List.length_cons, List.replicate_succ, ← ih (by omega), show x = 0 by omega]
    have hs : s = -r := by
      have h3 := h.sum
      have b := bl_b X 0
      rw [hn, Nat.mul_zero] at b
      omega
    subst hs
    rw [hz] at h
    refine ⟨out, h, fun k hk => ?_⟩
    obtain ⟨k, rfl⟩ : ∃ m, k = m + 1 := ⟨k - 1, by omega⟩
    have h2 := h.num
    have z : (List.replicate D.length 0).sum = 0 := by rw [← hz]; exact hn
    rw [z] at h2
    rw [impl_FirstForest.l0, if_neg (by omega), spec_FirstForest.l0, if_neg (by omega)]
    exact ⟨rfl, rfl⟩
  | succ n ih =>
    intro out X s hn h
    obtain ⟨m, hm⟩ := may_some X s r (h.low (by omega)) (by omega) h.sum
    obtain ⟨d, _, d1, d2⟩ := least _ m m (Nat.le_refl _) hm
    obtain ⟨hdl, hdp⟩ := may_lt _ _ _ _ _ d1
    have hls := less_sum X d hdp
    obtain ⟨res, i1, i2⟩ := ih (out ++ [(d : Int)]) (less X d) (s + (d : Int) - 1) (by omega) (inv_step h d d1)
    refine ⟨res, i1, fun k hk => ?_⟩
    have hlen := h.len
    have hnum := h.num
    have hsum := h.sum
    have hlow := h.low (by omega)
    obtain ⟨k, rfl⟩ : ∃ m, k = (m + d + 1) + 1 := ⟨k - d - 2, by omega⟩
    obtain ⟨f1, f2⟩ := i2 k (by omega)
    have b1 : out.length ≤ 16 := by omega
    have b2 : X.sum ≤ 100 := by omega
    have b3 : X.length ≤ 17 := by omega
    have b4 : -1000 ≤ s ∧ s ≤ 1000 := by omega
    have b5 : -1000 ≤ r ∧ r ≤ 1000 := by omega
    have b6 : 1 ≤ D.sum ∧ D.sum ≤ 16 := by omega
    have o1 : decide (X.sum = 1) = decide ((out.length : Int) = wrap64 ((D.sum : Int) - 1)) := decide_eq_decide.mpr (by rw [pr_w D.sum b6.1 (by omega)]; omega)
    have o2 : decide (X.sum = 1) = decide (((n + 1 : Nat) : Int) = 1) := decide_eq_decide.mpr (by omega)
    have c1 : (out.length : Int) < (D.sum : Int) := by clear o1; omega
    have c2 : ((n + 1 : Nat) : Int) > 0 := by clear o1; omega
    have c3 : 1 ≤ ((n + 1 : Nat) : Int) ∧ ((n + 1 : Nat) : Int) ≤ 16 := by clear o1; omega
    have e1 := fi_l1 D.sum r X b3 out s b4 b5 b6 b1 b2 _ o1 d d1 d 0 k (Nat.zero_add d) (fun i _ hi => d2 i hi)
    have e2 := fs_l1 r X b3 out s ((n + 1 : Nat) : Int) c3 b4 b5 b1 b2 _ o2 d d1 d 0 k (Nat.zero_add d) (fun i _ hi => d2 i hi)
    have e3 : ((n + 1 : Nat) : Int) - 1 = (n : Int) := by clear o1 e1 e2; omega
    rw [impl_FirstForest.l0, if_pos c1, spec_FirstForest.l0, if_pos c2]
    rw [e3] at e2
    exact ⟨e1.trans f1, e2.trans f2⟩

/-! ### The second half: counts -/
theorem rep0 : ∀ n : Nat, (List.replicate n (0 : Nat)).sum = 0
  | 0 => rfl
  | n + 1 => by rw [List.replicate_succ, List.sum_cons, rep0 n]
theorem xSame_nil (k : Nat) (hk : 1000 < k) : laws_xSame.f k [] [] = some true := same_self [] (by simp) k hk
theorem excE (D : List Nat) (hD : D.length ≤ 17) (h : D.sum ≤ 16) (k : Nat) (hk : 3000 < k) : spec_cyExcess.f k (ex 0 D) = some ((D.sum : Int) - (bl 0 D : Nat)) := by
  rw [excS (ex 0 D) (fun x hx => by have := ex_mem D 0 x hx; omega) (by rw [ex_len]; omega) k (by omega)]
  unfold exc
  rw [ex_len, ex_sum]
theorem clone_up (D : List Nat) (hD : D.length ≤ 17) : spec_l1Own.f (up1 D) = some (up1 D) := by
  unfold spec_l1Own.f
  rw [Option.bind_some, if_pos (by rw [up1_len, List.length_nil]; omega), List.nil_append]
structure Ok (D : List Nat) (k : Nat) : Prop where
  len : D.length ≤ 17
  pos : 1 ≤ D.sum
  top : D.sum ≤ 16
  nodes : impl_nodesOf.f k (up1 D) = some ((D.sum : Int), (D.sum : Int) - (bl 0 D : Nat), true)
  list : spec_cyCounts.f k (up1 D) = some (ex 0 D, true)
/-- No tree. -/
theorem none_ok {D : List Nat} {k : Nat} (h : Ok D k) (hk : 3001 < k) (hr : (D.sum : Int) - (bl 0 D : Nat) < 1) :
    impl_CountForests.f k (up1 D) = some (0, true) ∧ spec_CountForests.f k (up1 D) = some (0, true) ∧ impl_FirstForest.f k (up1 D) = some ([], false) ∧ spec_FirstForest.f k (up1 D) = some ([], false) := by
  have he := excE D h.len h.top k (by omega)
  have hd : decide ((D.sum : Int) - (bl 0 D : Nat) < 1) = true := decide_eq_true hr
  obtain ⟨k', rfl⟩ : ∃ m, k = m + 1 := ⟨k - 1, by omega⟩
  refine ⟨?_, ?_, ?_, ?_⟩
  · unfold impl_CountForests.f
    rw [h.nodes, Option.bind_some, if_pos rfl]
    show impl_CountForests.j0 (k' + 1) (up1 D) _ _ true (decide ((D.sum : Int) - (bl 0 D : Nat) < 1)) = _
    rw [hd, impl_CountForests.j0, if_pos rfl]
  · unfold spec_CountForests.f
    rw [h.list, Option.bind_some, if_pos rfl]
    show (spec_cyExcess.f (k' + 1) (ex 0 D)).bind _ = _
    rw [he, Option.bind_some, if_pos hr]
  · unfold impl_FirstForest.f
    rw [h.nodes, Option.bind_some, if_pos rfl]
    show impl_FirstForest.j0 (k' + 1) (up1 D) _ _ (decide ((D.sum : Int) - (bl 0 D : Nat) < 1)) = _
    rw [hd, impl_FirstForest.j0, if_pos rfl]
  · unfold spec_FirstForest.f
    rw [h.list, Option.bind_some, if_pos rfl]
    show (spec_cyExcess.f (k' + 1) (ex 0 D)).bind _ = _
    rw [he, Option.bind_some, hd, spec_FirstForest.j0, if_pos rfl]
/-- Some trees. -/
theorem some_ok {D : List Nat} {k : Nat} (h : Ok D k) (hk : 3001 < k) (hr : ¬ (D.sum : Int) - (bl 0 D : Nat) < 1) :
    ∃ (c : Int) (res : List Int), 0 < c ∧ impl_CountForests.f k (up1 D) = some (c, true) ∧ spec_CountForests.f k (up1 D) = some (c, true) ∧ impl_FirstForest.f k (up1 D) = some (res, true) ∧ spec_FirstForest.f k (up1 D) = some (res, true) ∧
      Inv D ((D.sum : Int) - (bl 0 D : Nat)) res (List.replicate D.length 0) (-((D.sum : Int) - (bl 0 D : Nat))) := by
  have he := excE D h.len h.top k (by omega)
  have hl := h.len; have hp := h.pos; have ht := h.top
  have hd : decide ((D.sum : Int) - (bl 0 D : Nat) < 1) = false := decide_eq_false hr
  have hbig := orders_big D ht hp (by omega)
  have hM := mI_b D ht
  obtain ⟨R, hR⟩ : ∃ R : Nat, R = D.sum - bl 0 D := ⟨_, rfl⟩
  have eR : (D.sum : Int) - (bl 0 D : Nat) = (R : Int) := by omega
  have hR16 : R ≤ 16 := by omega
  have hR1 : 1 ≤ R := by omega
  rw [← hR] at hbig
  rw [eR] at he hd
  obtain ⟨res, i1, i2⟩ := first_l0 D hl ht (R : Int) (by omega) D.sum [] D 0 rfl (inv_start D hp (R : Int) eR.symm (by omega))
  have hdiv : 1 ≤ R * mI D.sum D / D.sum := (Nat.le_div_iff_mul_le (by omega)).mpr (by rw [Nat.one_mul]; exact hbig)
  have hRM : R * mI D.sum D ≤ 16 * 20922789888000 := Nat.mul_le_mul hR16 hM
  have hcl := clone_eq (up1 D) (by rw [up1_len]; omega)
  have hcl2 := clone_up D hl
  have hnodes := h.nodes
  have hlist := h.list
  rw [eR] at hnodes ⊢
  obtain ⟨k', rfl⟩ : ∃ m, k = m + 1 := ⟨k - 1, by omega⟩
  obtain ⟨f1, f2⟩ := i2 k' (by omega)
  have g1 := cfI_l D ht hl D.sum R hp hR16 (mI D.sum D) hM D.length 0 D.sum 1 k' (by omega) (by rw [List.drop_zero]; exact Nat.le_refl _) ht (by rw [List.drop_zero, Nat.one_mul]) (by omega)
  have g2 := coS_l D ht hl (mI D.sum D) hM D.length 0 0 1 (k' + 1) (by omega) (by rw [List.drop_zero]; omega) (by rw [List.drop_zero, Nat.one_mul, mI_mS D ht]) (by omega)
  have gw : wrap64 (((mI D.sum D : Nat) : Int) * (R : Int)) = ((R * mI D.sum D : Nat) : Int) := by rw [mul_w _ _ (by rw [Nat.mul_comm]; omega), Nat.mul_comm]
  obtain ⟨Z, hZ⟩ : ∃ Z, Z = R * mI D.sum D / D.sum := ⟨_, rfl⟩
  have gd : Int.tdiv ((R * mI D.sum D : Nat) : Int) (D.sum : Int) = (Z : Int) := by rw [Int.tdiv_eq_ediv_of_nonneg (Int.natCast_nonneg _), ← Int.natCast_ediv, hZ]
  have hZb : Z ≤ 16 * 20922789888000 := by rw [hZ]; exact Nat.le_trans (Nat.div_le_self _ _) hRM
  have gz : wrap64 (Z : Int) = (Z : Int) := w64 (by omega) (by omega)
  rw [← hZ] at hdiv g1
  refine ⟨(Z : Int), res, by clear gw gd gz g1 g2 hnodes hlist f1 f2; omega, ?_, ?_, ?_, ?_, i1⟩
  · unfold impl_CountForests.f
    rw [hnodes, Option.bind_some, if_pos rfl]
    show impl_CountForests.j0 (k' + 1) (up1 D) (D.sum : Int) (R : Int) true (decide ((R : Int) < 1)) = _
    rw [hd, impl_CountForests.j0, if_neg Bool.false_ne_true]
    exact g1
  · unfold spec_CountForests.f
    rw [hlist, Option.bind_some, if_pos rfl]
    show (spec_cyExcess.f (k' + 1) (ex 0 D)).bind _ = _
    have g3 : spec_cyOrders.f (k' + 1) (up1 D) = _ := g2
    rw [he, Option.bind_some, if_neg (of_decide_eq_false hd), g3, Option.bind_some]
    show (if ((ex 0 D).length : Int) = 0 then _ else some (wrap64 (Int.tdiv (wrap64 (((mI D.sum D : Nat) : Int) * (R : Int))) ((ex 0 D).length : Int)), true)) = _
    have c0 : ¬ (D.sum : Int) = 0 := by clear gw gd gz g1 g2 g3; omega
    rw [ex_len, if_neg c0, gw, gd, gz]
  · unfold impl_FirstForest.f
    rw [hnodes, Option.bind_some, if_pos rfl]
    show impl_FirstForest.j0 (k' + 1) (up1 D) (D.sum : Int) (R : Int) (decide ((R : Int) < 1)) = _
    rw [hd, impl_FirstForest.j0, if_neg Bool.false_ne_true, hcl, Option.bind_some]
    exact f1
  · unfold spec_FirstForest.f
    rw [hlist, Option.bind_some, if_pos rfl]
    show (spec_cyExcess.f (k' + 1) (ex 0 D)).bind _ = _
    have he2 : spec_cyExcess.f k' (ex 0 D) = _ := excE D hl ht k' (by clear gw gd gz g1 g2; omega)
    rw [eR] at he2
    rw [he, Option.bind_some, hd, spec_FirstForest.j0, if_neg Bool.false_ne_true, he2, Option.bind_some, hcl2, Option.bind_some, ex_len]
    exact f2
theorem l3_eq (Fo C : List Int) (N i : Int) (x : Int) (hl : Fo.length ≤ 1000) (e : Nat) : ∀ (j k : Nat) (m : Int), j + e = Fo.length → -1000 + (e : Int) ≤ m → m ≤ 1000 →
    laws_FnForestsTold.l3 (k + e + 1) Fo x m C N i Fo (Fo.length : Int) (j : Int) = if m - ((Fo.drop j).count x : Nat) = 0 then laws_FnForestsTold.l2 k Fo C N (wrap64 (i + 1)) else some false := by
  induction e with
  | zero =>
    intro j k m h1 h2 h3
    rw [Nat.add_zero, laws_FnForestsTold.l3, if_neg (by omega), List.drop_eq_nil_of_le (by omega), List.count_nil]
    by_cases c : m = 0
    · rw [if_pos c, if_pos (by omega)]
    · rw [if_neg c, if_neg (by omega)]
  | succ e ih =>
    intro j k m h1 h2 h3
    have hj : j < Fo.length := by omega
    have hd : Fo.drop j = Fo.getD j 0 :: Fo.drop (j + 1) := by rw [List.drop_eq_getElem_cons hj, getD_lt Fo j hj]
    have f1 := ih (j + 1) k m (by omega) (by omega) (by omega)
    have f2 := ih (j + 1) k (m - 1) (by omega) (by omega) (by omega)
    have e4 := rw_suc j (by omega)
    have e5 := dc_w m (by omega)
    rw [show k + (e + 1) + 1 = (k + e + 1) + 1 by clear f1 f2 e4 e5; omega, laws_FnForestsTold.l3, if_pos (rl _ _ hj), if_pos (Int.natCast_nonneg j), if_pos (rl _ _ hj), rdg, hd, List.count_cons, e4, e5]
    by_cases c : Fo.getD j 0 = x
    · have ec : (if (Fo.getD j 0 == x) = true then 1 else 0) = 1 := if_pos (by rw [c]; exact beq_self_eq_true x)
      rw [if_pos c, f2, ec]
      by_cases c2 : m - 1 - (((Fo.drop (j + 1)).count x : Nat) : Int) = 0
      · rw [if_pos c2, if_pos (by clear f1 f2 e4 e5; omega)]
      · rw [if_neg c2, if_neg (by clear f1 f2 e4 e5; omega)]
    · have ec : (if (Fo.getD j 0 == x) = true then 1 else 0) = 0 := if_neg (by rw [beq_iff_eq]; exact c)
      rw [if_neg c, f1, ec]
      congr 1
theorem l2_ok (D : List Nat) (hD : D.length ≤ 17) (hs : D.sum ≤ 16) (Fo : List Int) (hl : Fo.length ≤ 16) (hc : ∀ d : Nat, d < D.length → Fo.count (d : Int) = D.getD d 0) (e : Nat) : ∀ i k : Nat, i + e = D.length → 100 + 30 * e < k → laws_FnForestsTold.l2 k Fo (up1 D) ((up1 D).length : Int) (i : Int) = some true := by
  induction e with
  | zero =>
    intro i k h1 h2
    obtain ⟨k, rfl⟩ : ∃ m, k = m + 1 := ⟨k - 1, by omega⟩
    rw [laws_FnForestsTold.l2, if_neg (by rw [up1_len]; omega)]
  | succ e ih =>
    intro i k h1 h2
    have hi : i < D.length := by omega
    obtain ⟨k, rfl⟩ : ∃ m, k = (m + Fo.length + 1) + 1 := ⟨k - 2 - Fo.length, by omega⟩
    have hdb := sum_at D i
    have q : (i : Int) < ((up1 D).length : Int) := by rw [up1_len]; omega
    have f := ih (i + 1) k (by omega) (by omega)
    have g := l3_eq Fo (up1 D) ((up1 D).length : Int) (i : Int) (i : Int) (by omega) Fo.length 0 k ((D.getD i 0 : Nat) : Int) (by omega) (by omega) (by omega)
    rw [List.drop_zero, hc i hi, if_pos (by omega), rw_suc i (by omega)] at g
    rw [laws_FnForestsTold.l2, if_pos q, if_pos (Int.natCast_nonneg i), if_pos q, rdg, up1_get]
    exact g.trans f
theorem up1_sum (D : List Nat) : (up1 D).sum = (D.sum : Int) := by
  induction D with
  | nil => rfl
  | cons d D ih =>
    show (d : Int) + (up1 D).sum = _
    rw [ih, List.sum_cons]; omega
theorem j5_ok {D : List Nat} (hD : D.length ≤ 17) (hp : 1 ≤ D.sum) (hs : D.sum ≤ 16) {r : Int} (hr : 1 ≤ r) {res : List Int} (hi : Inv D r res (List.replicate D.length 0) (-r)) (k : Nat) (hk : 5000 < k) : laws_FnForestsTold.j5 k (up1 D) res true false = some true := by
  have hz : (List.replicate D.length 0).sum = 0 := rep0 _
  have hlen : res.length = D.sum := by have := hi.num; rw [hz] at this; omega
  have hcnt : ∀ d : Nat, d < D.length → res.count (d : Int) = D.getD d 0 := fun d hd => by
    have := hi.cnt d hd
    rw [List.getD_eq_getElem?_getD, List.getElem?_replicate, if_pos hd] at this
    exact this
  have hdeg : deg res = true := by
    rw [deg_iff, hlen]
    exact ⟨⟨hp, hs⟩, fun x hx => by have := hi.mem x hx; omega⟩
  have hok : F.okp r res := by
    have := hi.okp [] (by show r + -r = 0; omega)
    rw [List.append_nil] at this
    exact this
  have hexc : exc res = r := by
    have := ((F.okp_ps res r).mp hok).1
    rw [sum_map1] at this
    unfold exc; omega
  have hfs : fs res = true := by
    unfold fs
    rw [hdeg, (fst_okp res (by omega)).mpr (by rw [hexc]; exact hok)]; rfl
  have hsum : ∀ k, 1000 < k → laws_xSum.f k (up1 D) = some (D.sum : Int) := fun k hk => by
    rw [xSum_eq (up1 D) (fun x hx => by
      obtain ⟨y, h1, rfl⟩ := List.mem_map.mp hx
      have := sum_mem D y h1; omega) (by rw [up1_len]; omega) k hk, up1_sum]
  obtain ⟨k, rfl⟩ : ∃ m, k = m + 1 := ⟨k - 1, by omega⟩
  rw [laws_FnForestsTold.j5, if_neg Bool.false_ne_true, if_pos rfl, isForI res k (by omega), Option.bind_some, if_pos hdeg, if_pos hfs, hsum k (by omega), Option.bind_some]
  have e : ((res.length : Int) != (D.sum : Int)) = false := by rw [hlen]; simp
  rw [e]
  obtain ⟨k, rfl⟩ : ∃ m, k = m + 1 := ⟨k - 1, by omega⟩
  rw [laws_FnForestsTold.j6, if_neg Bool.false_ne_true]
  exact l2_ok D hD hs res (by omega) hcnt D.length 0 k (by omega) (by omega)
theorem j4_ok (l1 : List Int) (hl : ∀ x ∈ l1, 0 ≤ x ∧ x ≤ 255) (k : Nat) (hk : 7000 ≤ k) : laws_FnForestsTold.j4 k l1 = some true := by
  obtain ⟨C, z, hC⟩ := counts_tot l1 hl
  obtain ⟨k, rfl⟩ : ∃ m, k = m + 1 := ⟨k - 1, by omega⟩
  rw [laws_FnForestsTold.j4, hC k (by omega), Option.bind_some]
  rcases counts_case C z with ⟨D, rfl, d1, d2, d3, d4⟩ | ⟨a, b, L, d4⟩
  · have hok : Ok D k := ⟨d1, d2, d3, (d4 k (by omega)).1, (d4 k (by omega)).2⟩
    by_cases c : (D.sum : Int) - (bl 0 D : Nat) < 1
    · obtain ⟨e1, e2, e3, e4⟩ := none_ok hok (by omega) c
      rw [e1, Option.bind_some, e2, Option.bind_some, e3, Option.bind_some, e4, Option.bind_some]
      rw [if_neg (nb true), if_pos rfl, if_neg (nb false)]
      show ((laws_xSame.f k [] []).bind _) = _
      rw [xSame_nil k (by omega), Option.bind_some, if_pos rfl, if_pos rfl]
      obtain ⟨k, rfl⟩ : ∃ m, k = m + 1 := ⟨k - 1, by omega⟩
      rfl
    · obtain ⟨c1, res, c2, e1, e2, e3, e4, e5⟩ := some_ok hok (by omega) c
      rw [e1, Option.bind_some, e2, Option.bind_some, e3, Option.bind_some, e4, Option.bind_some]
      have hz : (List.replicate D.length 0).sum = 0 := rep0 _
      have hlen : res.length ≤ 16 := by have := e5.num; rw [hz] at this; omega
      rw [if_neg (nb true), if_pos rfl, if_neg (nb true)]
      show ((laws_xSame.f k res res).bind _) = _
      rw [same_self res (by omega) k (by omega), Option.bind_some, if_pos rfl, if_pos rfl]
      have e : (true != decide (c1 > 0)) = false := by rw [decide_eq_true c2]; rfl
      show laws_FnForestsTold.j5 k (up1 D) res true (true != decide (c1 > 0)) = _
      rw [e]
      exact j5_ok d1 d2 d3 (by omega) e5 k (by omega)
  · have j : ∀ k, 3000 < k → impl_CountForests.f k C = some (0, false) ∧ spec_CountForests.f k C = some (0, false) ∧ impl_FirstForest.f k C = some ([], false) ∧ spec_FirstForest.f k C = some ([], false) := fun k hk => by
      obtain ⟨f1, f2⟩ := d4 k hk
      obtain ⟨k, rfl⟩ : ∃ m, k = m + 1 := ⟨k - 1, by omega⟩
      refine ⟨?_, ?_, ?_, ?_⟩
      · unfold impl_CountForests.f; rw [f1, Option.bind_some, if_neg Bool.false_ne_true, impl_CountForests.j0, if_pos rfl]
      · unfold spec_CountForests.f; rw [f2, Option.bind_some, if_neg Bool.false_ne_true]
      · unfold impl_FirstForest.f; rw [f1, Option.bind_some, if_neg Bool.false_ne_true, impl_FirstForest.j0, if_pos rfl]
      · unfold spec_FirstForest.f; rw [f2, Option.bind_some, if_neg Bool.false_ne_true, spec_FirstForest.j0, if_pos rfl]
    obtain ⟨e1, e2, e3, e4⟩ := j k (by omega)
    rw [e1, Option.bind_some, e2, Option.bind_some, e3, Option.bind_some, e4, Option.bind_some]
    rw [if_neg (nb false), if_pos rfl, if_neg (nb false)]
    show ((laws_xSame.f k [] []).bind _) = _
    rw [xSame_nil k (by omega), Option.bind_some, if_pos rfl, if_neg Bool.false_ne_true]
    obtain ⟨k, rfl⟩ : ∃ m, k = m + 1 := ⟨k - 1, by omega⟩
    rfl

/-! ### The first half: forests -/
theorem par_lt (g : F) (i : Nat) (h : i < (F.par (-1) 0 g).length) : -1 ≤ (F.par (-1) 0 g).getD i 0 ∧ (F.par (-1) 0 g).getD i 0 < i := by
  rw [F.par_len] at h
  have := par_b g (-1) 0 i (by omega) (by omega) h
  omega
structure Big (g : F) (k : Nat) : Prop where
  ne : g ≠ .nil
  size : F.size g ≤ 16
  fuel : 600000 < k
theorem Big.deg {g : F} {k : Nat} (h : Big g k) : ∀ x ∈ F.pre g, 0 ≤ x ∧ x ≤ 16 := fun x hx => ⟨F.pre_nn g x hx, by have := F.pre_le g x hx; have := h.size; omega⟩
theorem Big.fs {g : F} {k : Nat} (h : Big g k) : fs (F.pre g) = true := fs_pre g h.ne h.size
theorem b_trees {g : F} {k : Nat} (h : Big g k) : impl_TreesOf.f k (F.pre g) = some (F.trs g, true) ∧ spec_TreesOf.f k (F.pre g) = some (F.trs g, true) := by
  have hk := h.fuel; have hs := h.size
  have k1 : 1000 < k := by omega
  have s4 : F.size g ≤ 400 := by omega
  refine ⟨?_, ?_⟩
  · unfold impl_TreesOf.f
    rw [areI _ k k1, Option.bind_some, h.fs, if_pos rfl, treesInI g s4 k k1, Option.bind_some]
  · unfold spec_TreesOf.f
    rw [areS _ k k1, Option.bind_some, h.fs, if_pos rfl, cyTreesS g s4 k k1, Option.bind_some]
theorem b_parents {g : F} {k : Nat} (h : Big g k) : impl_ParentsOf.f k (F.pre g) = some (F.par (-1) 0 g, true) ∧ spec_ParentsOf.f k (F.pre g) = some (F.par (-1) 0 g, true) := by
  have hk := h.fuel; have hs := h.size
  have k1 : 1000 < k := by omega
  have k2 : 500000 < k := by omega
  have s4 : F.size g ≤ 400 := by omega
  refine ⟨?_, ?_⟩
  · unfold impl_ParentsOf.f
    rw [areI _ k k1, Option.bind_some, h.fs, if_pos rfl, parentsI g s4 h.deg k k2, Option.bind_some]
  · unfold spec_ParentsOf.f
    rw [areS _ k k1, Option.bind_some, h.fs, if_pos rfl, parentsS g s4 h.deg k k2, Option.bind_some]
theorem b_depths {g : F} {k : Nat} (h : Big g k) : impl_DepthsOf.f k (F.pre g) = some (F.dep 0 g, true) ∧ spec_DepthsOf.f k (F.pre g) = some (F.dep 0 g, true) := by
  have hk := h.fuel; have hs := h.size
  have k1 : 1000 < k := by omega
  have k2 : 500000 < k := by omega
  have s4 : F.size g ≤ 400 := by omega
  have hl : (F.par (-1) 0 g).length ≤ 900 := by rw [F.par_len]; omega
  have hP : ∀ i, i < (F.par (-1) 0 g).length → (F.par (-1) 0 g).getD i 0 < i := fun i hi => (par_lt g i hi).2
  have hk3 : (F.par (-1) 0 g).length < k := by omega
  have n0 : ∀ x ∈ ([] : List Int), 0 ≤ x ∧ x ≤ (([] : List Int).length : Int) := fun x hx => absurd hx List.not_mem_nil
  refine ⟨?_, ?_⟩
  · unfold impl_DepthsOf.f
    rw [areI _ k k1, Option.bind_some, h.fs, if_pos rfl, parentsI g s4 h.deg k k2, Option.bind_some]
    have := depI_l (F.par (-1) 0 g) hl hP (F.par (-1) 0 g).length 0 k [] (Nat.zero_add _) rfl n0 hk3
    rw [List.drop_zero, dps_all] at this
    exact this
  · have e : spec_cyDepths.f k (F.pre g) = some (F.dep 0 g) := by
      unfold spec_cyDepths.f
      rw [if_pos (Int.natCast_nonneg _), Int.toNat_natCast, if_pos (by rw [F.pre_len]; omega), parentsS g s4 h.deg k k2, Option.bind_some]
      have := depS_l (F.par (-1) 0 g) hl hP (F.par (-1) 0 g).length 0 k [] (Nat.zero_add _) rfl n0 hk3
      rw [List.drop_zero, dps_all, List.nil_append, F.par_len] at this
      rw [F.pre_len, F.par_len]
      exact this
    unfold spec_DepthsOf.f
    rw [areS _ k k1, Option.bind_some, h.fs, if_pos rfl, e, Option.bind_some]
theorem b_mirror {g : F} {k : Nat} (h : Big g k) : impl_MirrorForest.f k (F.pre g) = some (F.pre (F.mir g), true) ∧ spec_MirrorForest.f k (F.pre g) = some (F.pre (F.mir g), true) := by
  have hk := h.fuel; have hs := h.size
  have k1 : 1000 < k := by omega
  have k3 : 1001 + 16 < k := by omega
  have k4 : 1003 + 500 * 16 < k := by omega
  refine ⟨?_, ?_⟩
  · unfold impl_MirrorForest.f
    rw [areI _ k k1, Option.bind_some, h.fs, if_pos rfl, mirroredI 16 g hs (by omega) k k3, Option.bind_some]
  · unfold spec_MirrorForest.f
    rw [areS _ k k1, Option.bind_some, h.fs, if_pos rfl, mirroredS 16 g hs (by omega) k k4, Option.bind_some]
theorem Big.mir {g : F} {k : Nat} (h : Big g k) : Big (F.mir g) k := ⟨F.mir_nil g h.ne, by rw [F.mir_size]; exact h.size, h.fuel⟩
theorem dep_b (g : F) : ∀ x ∈ F.dep 0 g, 0 ≤ x ∧ x ≤ (F.size g : Int) := by
  have := dps_b (F.par (-1) 0 g) [] (fun x hx => absurd hx List.not_mem_nil)
  rw [dps_all, F.dep_len] at this
  exact this
theorem sum_dep {g : F} {k : Nat} (h : Big g k) : laws_xSum.f k (F.dep 0 g) = some (F.dep 0 g).sum := by
  have hs := h.size; have hk := h.fuel
  exact xSum_eq _ (fun x hx => by have := dep_b g x hx; omega) (by rw [F.dep_len]; omega) k (by omega)
/-! The children that are counted -/
def chl (P : List Int) (n i : Nat) : List Int := (List.range n).map fun j : Nat => (((P.take i).count (j : Int) : Nat) : Int)
theorem chl_len (P : List Int) (n i : Nat) : (chl P n i).length = n := by simp [chl]
theorem chl_get (P : List Int) (n i j : Nat) (h : j < n) : (chl P n i).getD j 0 = (((P.take i).count (j : Int) : Nat) : Int) := by
  unfold chl
  rw [List.getD_eq_getElem?_getD, List.getElem?_map, List.getElem?_range h]; rfl
theorem take_suc (P : List Int) (i : Nat) (h : i < P.length) : P.take (i + 1) = P.take i ++ [P.getD i 0] := by
  rw [List.take_add_one, List.getElem?_eq_getElem h, getD_lt P i h]; rfl
theorem cnt_suc (P : List Int) (i : Nat) (h : i < P.length) (x : Int) : (P.take (i + 1)).count x = (P.take i).count x + if P.getD i 0 = x then 1 else 0 := by
  rw [take_suc P i h, List.count_append, List.count_singleton]
  by_cases c : P.getD i 0 = x
  · rw [if_pos c, if_pos (by rw [c]; exact beq_self_eq_true x)]
  · rw [if_neg c, if_neg (by rw [beq_iff_eq]; exact c)]
theorem ext_getD (A B : List Int) (hl : A.length = B.length) (h : ∀ j, j < A.length → A.getD j 0 = B.getD j 0) : A = B := by
  refine List.ext_getElem hl fun j h1 h2 => ?_
  have := h j h1
  rw [getD_lt A j h1, getD_lt B j h2] at this
  exact this
theorem chl_root (P : List Int) (n i : Nat) (h : i < P.length) (hp : P.getD i 0 < 0) : chl P n (i + 1) = chl P n i :=
  ext_getD _ _ (by rw [chl_len, chl_len]) fun j hj => by
    rw [chl_len] at hj
    rw [chl_get P n _ j hj, chl_get P n _ j hj, cnt_suc P i h, if_neg (by omega)]; rfl
theorem chl_up (P : List Int) (n i p : Nat) (h : i < P.length) (hp : P.getD i 0 = (p : Int)) (hpn : p < n) : (chl P n i).set p ((chl P n i).getD p 0 + 1) = chl P n (i + 1) :=
  ext_getD _ _ (by rw [List.length_set, chl_len, chl_len]) fun j hj => by
    rw [List.length_set, chl_len] at hj
    rw [chl_get P n (i + 1) j hj, cnt_suc P i h, hp]
    by_cases c : p = j
    · subst c
      rw [getD_set_eq _ _ _ (by rw [chl_len]; exact hj), chl_get P n i p hj, if_pos rfl]; rfl
    · rw [getD_set_ne _ _ _ _ c, chl_get P n i j hj, if_neg (by omega)]; rfl
theorem chl_all (g : F) : chl (F.par (-1) 0 g) (F.pre g).length (F.pre g).length = F.pre g := by
  have hl : (F.par (-1) 0 g).length = (F.pre g).length := by rw [F.par_len, F.pre_len]
  refine ext_getD _ _ (chl_len _ _ _) fun j hj => ?_
  rw [chl_len] at hj
  have hc := par_count g (-1) 0 (j : Int) (by omega)
  rw [chl_get _ _ _ j hj, ← hl, List.take_length, hc, if_neg (by omega), if_pos (by rw [F.pre_len] at hj; omega), show ((j : Int) - ((0 : Nat) : Int)).toNat = j by omega, Int.zero_add]
theorem roots_all (g : F) : (((F.par (-1) 0 g).count (-1) : Nat) : Int) = F.len g := by
  have hc := par_count g (-1) 0 (-1) (by omega)
  rw [if_pos rfl, if_neg (by omega), Int.add_zero] at hc
  exact hc
theorem cnt_le (P : List Int) (i : Nat) (x : Int) : (P.take i).count x ≤ i := Nat.le_trans List.count_le_length (by rw [List.length_take]; omega)
theorem l1_end (l1 : List Int) (hl1 : ∀ x ∈ l1, 0 ≤ x ∧ x ≤ 255) {g : F} {k : Nat} (h : Big g k) :
    laws_FnForestsTold.l1 (k + 1) l1 (F.pre g) (F.dep 0 g) (F.pre (F.mir g)) (F.len g : Int) (F.pre g) (F.len g : Int) (F.par (-1) 0 g) ((F.par (-1) 0 g).length : Int) ((F.par (-1) 0 g).length : Int) = some true := by
  have hk := h.fuel; have hs := h.size
  have k1 : 1000 < k := by omega
  have k7 : 7000 ≤ k := by omega
  have sm := same_self (F.pre g) (by rw [F.pre_len]; omega) k k1
  rw [laws_FnForestsTold.l1, if_neg (Int.lt_irrefl _), (b_mirror h.mir).1, F.mir_mir, Option.bind_some, (b_depths h.mir).1, Option.bind_some, if_pos rfl, sm, Option.bind_some, if_pos rfl, if_pos rfl]
  rw [Option.bind_some, if_pos rfl, if_pos rfl]
  show (laws_xSum.f k (F.dep 0 (F.mir g))).bind _ = _
  rw [sum_dep h.mir, Option.bind_some, sum_dep h, Option.bind_some, F.mir_dep, if_pos rfl]
  exact j4_ok l1 hl1 k k7
theorem l1_ok (l1 : List Int) (hl1 : ∀ x ∈ l1, 0 ≤ x ∧ x ≤ 255) {g : F} {K : Nat} (h : Big g K) (d : Nat) : ∀ i k : Nat, i + d = (F.pre g).length → K + d < k →
    laws_FnForestsTold.l1 k l1 (F.pre g) (F.dep 0 g) (F.pre (F.mir g)) (F.len g : Int) (chl (F.par (-1) 0 g) (F.pre g).length i) ((((F.par (-1) 0 g).take i).count (-1) : Nat) : Int) (F.par (-1) 0 g) ((F.par (-1) 0 g).length : Int) (i : Int) = some true := by
  have hl : (F.par (-1) 0 g).length = (F.pre g).length := by rw [F.par_len, F.pre_len]
  have hs := h.size
  have hsz := F.pre_len g
  induction d with
  | zero =>
    intro i k h1 h2
    obtain ⟨k, rfl⟩ : ∃ m, k = m + 1 := ⟨k - 1, by omega⟩
    obtain rfl : i = (F.pre g).length := by omega
    have := l1_end l1 hl1 (g := g) (k := k) ⟨h.ne, h.size, by have := h.fuel; omega⟩
    rw [chl_all, ← hl, List.take_length, roots_all]
    exact this
  | succ d ih =>
    intro i k h1 h2
    obtain ⟨k, rfl⟩ : ∃ m, k = m + 1 := ⟨k - 1, by omega⟩
    have hi : i < (F.par (-1) 0 g).length := by omega
    have hid : i < (F.dep 0 g).length := by rw [F.dep_len]; omega
    have hp := par_lt g i hi
    have hdg := dps_get (F.par (-1) 0 g) i hi hp.2
    rw [dps_all] at hdg
    have f := ih (i + 1) k (by omega) (by omega)
    have hc1 := cnt_le (F.par (-1) 0 g) i (-1)
    have q := rl _ _ hi
    have qd : (i : Int) < ((F.dep 0 g).length : Int) := by omega
    have e4 := rw_suc i (by omega)
    have hcs := cnt_suc (F.par (-1) 0 g) i hi (-1)
    by_cases c : (F.par (-1) 0 g).getD i 0 < 0
    · rw [if_pos c] at hdg
      rw [if_pos (by omega)] at hcs
      have e5 := rw_suc ((((F.par (-1) 0 g).take i).count (-1) : Nat)) (by clear e4; omega)
      rw [chl_root _ _ _ hi c, hcs] at f
      rw [laws_FnForestsTold.l1, if_pos q, if_pos (Int.natCast_nonneg i), if_pos q, rdg, if_pos c, if_pos qd, rdg, hdg, if_pos rfl, e4, e5]
      exact f
    · rw [if_neg c] at hdg
      obtain ⟨p, hpp⟩ := Int.eq_ofNat_of_zero_le (show 0 ≤ (F.par (-1) 0 g).getD i 0 by clear e4; omega)
      have hpi : p < i := by clear e4; omega
      rw [hpp, Int.toNat_natCast] at hdg
      rw [if_neg (by clear e4; omega), Nat.add_zero] at hcs
      have hc2 := cnt_le (F.par (-1) 0 g) i (p : Int)
      have hpn : p < (F.pre g).length := by clear e4; omega
      have hpd : (p : Int) < ((F.dep 0 g).length : Int) := by clear e4; omega
      have hpc : (p : Int) < ((chl (F.par (-1) 0 g) (F.pre g).length i).length : Int) := by rw [chl_len]; clear e4; omega
      have hdb : 0 ≤ (F.dep 0 g).getD p 0 ∧ (F.dep 0 g).getD p 0 ≤ 100 := by
        have hpd2 : p < (F.dep 0 g).length := by clear e4; omega
        rw [getD_lt _ _ hpd2]
        have := dep_b g _ (List.getElem_mem hpd2)
        clear e4; omega
      have hcb : 0 ≤ (chl (F.par (-1) 0 g) (F.pre g).length i).getD p 0 ∧ (chl (F.par (-1) 0 g) (F.pre g).length i).getD p 0 ≤ 1000 := by
        rw [chl_get _ _ _ _ hpn]
        clear e4; omega
      have hset := chl_up (F.par (-1) 0 g) (F.pre g).length i p hi hpp hpn
      rw [hcs, ← hset] at f
      have e6 := up_w _ (show 0 ≤ (F.dep 0 g).getD p 0 ∧ (F.dep 0 g).getD p 0 ≤ 100000 by clear e4; omega)
      have e7 := up_w _ (show 0 ≤ (chl (F.par (-1) 0 g) (F.pre g).length i).getD p 0 ∧ (chl (F.par (-1) 0 g) (F.pre g).length i).getD p 0 ≤ 100000 by clear e4 e6; omega)
      have n1 : ¬ (p : Int) < 0 := by clear e4 e6 e7; omega
      have n2 : ¬ (p : Int) ≥ (i : Int) := by clear e4 e6 e7; omega
      rw [laws_FnForestsTold.l1, if_pos q, if_pos (Int.natCast_nonneg i), if_pos q, rdg, hpp, if_neg n1, if_neg n2, if_pos qd, if_pos (Int.natCast_nonneg p), if_pos hpd, rdg, rdg, e6, hdg, if_pos rfl, if_pos hpc, rdg, e7, Int.toNat_natCast, e4]
      exact f
theorem j2_ok (l1 : List Int) (hl1 : ∀ x ∈ l1, 0 ≤ x ∧ x ≤ 255) {g : F} {K : Nat} (h : Big g K) (k : Nat) (hk : K + 30 < k) : laws_FnForestsTold.j2 k l1 (F.pre g) (F.par (-1) 0 g) (F.dep 0 g) (F.pre (F.mir g)) (F.len g : Int) false = some true := by
  obtain ⟨k, rfl⟩ : ∃ m, k = m + 1 := ⟨k - 1, by omega⟩
  have hs := h.size
  have hl := F.pre_len g
  have := l1_ok l1 hl1 h (F.pre g).length 0 k (by omega) (by omega)
  have ec : chl (F.par (-1) 0 g) (F.pre g).length 0 = List.replicate (F.pre g).length 0 := by
    refine ext_getD _ _ (by rw [chl_len, List.length_replicate]) fun j hj => ?_
    rw [chl_len] at hj
    rw [chl_get _ _ _ j hj, List.getD_eq_getElem?_getD, List.getElem?_replicate, if_pos hj]; rfl
  rw [ec] at this
  rw [laws_FnForestsTold.j2, if_neg Bool.false_ne_true, if_pos (Int.natCast_nonneg _), Int.toNat_natCast, if_pos (by omega)]
  exact this
theorem l0_ok (l1 : List Int) (hl1 : ∀ x ∈ l1, 0 ≤ x ∧ x ≤ 255) {g : F} {K : Nat} (h : Big g K) (d : Nat) : ∀ (i k : Nat) (X : List Int), i + d = (F.trs g).length → X ++ ((F.trs g).drop i).flatten = F.pre g → K + d + 40 < k →
    laws_FnForestsTold.l0 k l1 (F.pre g) (F.trs g) (F.par (-1) 0 g) (F.dep 0 g) (F.pre (F.mir g)) (F.len g : Int) true X (F.trs g) ((F.trs g).length : Int) (i : Int) = some true := by
  have hs := h.size; have hf := h.fuel
  have hsz := F.pre_len g
  have htl := F.trs_len g
  have hlt := F.len_size g
  induction d with
  | zero =>
    intro i k X h1 hX h2
    obtain ⟨k, rfl⟩ : ∃ m, k = m + 1 := ⟨k - 1, by omega⟩
    rw [List.drop_eq_nil_of_le (by omega), List.flatten_nil, List.append_nil] at hX
    subst hX
    have q : ¬ (i : Int) < ((F.trs g).length : Int) := by omega
    have q2 : ((F.trs g).length : Int) = (F.len g : Int) := by omega
    rw [laws_FnForestsTold.l0, if_neg q, if_pos rfl, if_pos q2, same_self (F.pre g) (by omega) k (by omega), Option.bind_some]
    exact j2_ok l1 hl1 h k (by omega)
  | succ d ih =>
    intro i k X h1 hX h2
    obtain ⟨k, rfl⟩ : ∃ m, k = m + 1 := ⟨k - 1, by omega⟩
    have hi : i < (F.trs g).length := by omega
    rw [List.drop_eq_getElem_cons hi, List.flatten_cons] at hX
    obtain ⟨c, ec, hc⟩ := F.trs_mem g _ (List.getElem_mem hi)
    have er : rd_L2 (F.trs g) (i : Int) = F.pre (F.cons c F.nil) := by
      unfold rd_L2
      rw [Int.toNat_natCast, List.getD_eq_getElem?_getD, List.getElem?_eq_getElem hi]
      exact ec
    have hcs : F.size (F.cons c F.nil) ≤ 16 := by simp only [F.size]; omega
    have hne : F.cons c F.nil ≠ F.nil := by simp
    have hdg := pre_deg _ hne hcs
    have hfs := fs_pre _ hne hcs
    have hex : excOf (F.pre (F.cons c F.nil)) = 1 := by
      unfold excOf
      rw [if_pos hdg, exc_pre]; rfl
    have hlen := congrArg List.length hX
    rw [List.length_append, List.length_append, ec] at hlen
    have f := ih (i + 1) k (X ++ (F.trs g)[i]) (by omega) (by rw [List.append_assoc]; exact hX) (by omega)
    rw [ec] at f
    have k3 : 3000 < k := by omega
    have q4 : X.length + (F.pre (F.cons c F.nil)).length < 17592186044416 := by omega
    have e4 := rw_suc i (by omega)
    rw [laws_FnForestsTold.l0, if_pos (rl _ _ hi), if_pos (Int.natCast_nonneg i), if_pos (rl _ _ hi), er, excOfI _ k k3, hdg, hex, Option.bind_some, isForI _ k k3, hdg, hfs, Option.bind_some, if_pos rfl, if_pos rfl, if_pos rfl, if_pos rfl, if_pos q4, e4]
    exact f
theorem j0_ok (l1 : List Int) (hl1 : ∀ x ∈ l1, 0 ≤ x ∧ x ≤ 255) {g : F} {K : Nat} (h : Big g K) (k : Nat) (hk : K + 100 < k) : laws_FnForestsTold.j0 k l1 (F.pre g) (F.trs g) true (F.par (-1) 0 g) (F.dep 0 g) (F.pre (F.mir g)) false = some true := by
  obtain ⟨k, rfl⟩ : ∃ m, k = m + 1 := ⟨k - 1, by omega⟩
  have hf := h.fuel; have hs := h.size
  have hlt := F.len_size g
  have htl := F.trs_len g
  have hdg := pre_deg g h.ne h.size
  have hex : excOf (F.pre g) = F.len g := by
    unfold excOf
    rw [if_pos hdg, exc_pre]
  have := l0_ok l1 hl1 h (F.trs g).length 0 k [] (by omega) (by rw [List.drop_zero, List.nil_append, F.trs_flat]) (by omega)
  rw [laws_FnForestsTold.j0, if_neg Bool.false_ne_true, if_pos rfl, excOfI _ k (by omega), hdg, hex, Option.bind_some]
  exact this
theorem same_rows (X : List (List Int)) (hl : X.length ≤ 1000) (hX : ∀ t ∈ X, t.length ≤ 1000) (d : Nat) : ∀ i k : Nat, i + d = X.length → 1001 + d < k → laws_xRows.l0 k X X (X.length : Int) (i : Int) = some true := by
  induction d with
  | zero =>
    intro i k h1 h2
    obtain ⟨k, rfl⟩ : ∃ m, k = m + 1 := ⟨k - 1, by omega⟩
    rw [laws_xRows.l0, if_neg (by omega)]
  | succ d ih =>
    intro i k h1 h2
    obtain ⟨k, rfl⟩ : ∃ m, k = m + 1 := ⟨k - 1, by omega⟩
    have hi : i < X.length := by omega
    have er : rd_L2 X (i : Int) = X[i] := by
      unfold rd_L2
      rw [Int.toNat_natCast, List.getD_eq_getElem?_getD, List.getElem?_eq_getElem hi]; rfl
    have f := ih (i + 1) k (by omega) (by omega)
    have k1 : 1000 < k := by omega
    have e4 := rw_suc i (by omega)
    rw [laws_xRows.l0, if_pos (rl _ _ hi), if_pos (Int.natCast_nonneg i), if_pos (rl _ _ hi), if_pos (rl _ _ hi), er, same_self _ (hX _ (List.getElem_mem hi)) k k1, Option.bind_some, if_pos rfl, e4]
    exact f
theorem rows_self (X : List (List Int)) (hl : X.length ≤ 1000) (hX : ∀ t ∈ X, t.length ≤ 1000) (k : Nat) (hk : 3000 < k) : laws_xRows.f k X X = some true := by
  unfold laws_xRows.f
  rw [if_pos rfl]
  exact same_rows X hl hX X.length 0 k (by omega) (by omega)
theorem off {L : List Int} (h : fs L = false) (k : Nat) (hk : 1000 < k) : impl_TreesOf.f k L = some ([], false) ∧ spec_TreesOf.f k L = some ([], false) ∧ impl_ParentsOf.f k L = some ([], false) ∧ spec_ParentsOf.f k L = some ([], false) ∧ impl_DepthsOf.f k L = some ([], false) ∧ spec_DepthsOf.f k L = some ([], false) ∧ impl_MirrorForest.f k L = some ([], false) ∧ spec_MirrorForest.f k L = some ([], false) := by
  have n : ¬ false = true := Bool.false_ne_true
  refine ⟨?_, ?_, ?_, ?_, ?_, ?_, ?_, ?_⟩
  · unfold impl_TreesOf.f; rw [areI _ k hk, h, Option.bind_some, if_neg n]
  · unfold spec_TreesOf.f; rw [areS _ k hk, h, Option.bind_some, if_neg n]
  · unfold impl_ParentsOf.f; rw [areI _ k hk, h, Option.bind_some, if_neg n]
  · unfold spec_ParentsOf.f; rw [areS _ k hk, h, Option.bind_some, if_neg n]
  · unfold impl_DepthsOf.f; rw [areI _ k hk, h, Option.bind_some, if_neg n]
  · unfold spec_DepthsOf.f; rw [areS _ k hk, h, Option.bind_some, if_neg n]
  · unfold impl_MirrorForest.f; rw [areI _ k hk, h, Option.bind_some, if_neg n]
  · unfold spec_MirrorForest.f; rw [areS _ k hk, h, Option.bind_some, if_neg n]

/-! ### The law -/
theorem FnForestsTold : laws_FnForestsTold.Pure := by
  intro l0 l1 _ _ hw0 _ _ hw1
  have hl0 : ∀ x ∈ l0, 0 ≤ x ∧ x ≤ 255 := fun x hx => u8_b (hw0 x hx)
  have hl1 : ∀ x ∈ l1, 0 ≤ x ∧ x ≤ 255 := fun x hx => u8_b (hw1 x hx)
  obtain ⟨L, z, hL⟩ := trees_tot l0 hl0
  obtain ⟨b, hb⟩ := big_some l0 l1
  obtain ⟨k, hk⟩ : ∃ k, k = 700000 := ⟨_, rfl⟩
  refine ⟨k, ?_⟩
  have k1 : 1000 < k := by omega
  have k3 : 3000 < k := by omega
  have k4 : 4000 < k := by omega
  unfold laws_FnForestsTold.f
  rw [hb, Option.bind_some]
  cases b with
  | true => rw [if_pos rfl]
  | false =>
    rw [if_neg Bool.false_ne_true, hL k k4, Option.bind_some]
    have iI := isForI L k k3
    have iS := isForS L k k3
    cases hf : fs L with
    | false =>
      obtain ⟨e1, e2, e3, e4, e5, e6, e7, e8⟩ := off hf k k1
      have hj : laws_FnForestsTold.j0 k l1 L [] false [] [] [] false = some true := by
        obtain ⟨k', hk'⟩ : ∃ m, k = m + 1 := ⟨k - 1, by omega⟩
        rw [hk', laws_FnForestsTold.j0, if_neg Bool.false_ne_true, if_neg Bool.false_ne_true]
        exact j4_ok l1 hl1 k' (by omega)
      rw [hf] at iI iS
      have xs := xSame_nil k k1
      have xr := rows_self [] (by simp) (fun t ht => absurd ht List.not_mem_nil) k k3
      rw [e1, Option.bind_some, e2, Option.bind_some, e3, Option.bind_some, e4, Option.bind_some, e5, Option.bind_some, e6, Option.bind_some, e7, Option.bind_some, e8, Option.bind_some, iI, Option.bind_some, iS, Option.bind_some]
      rw [if_neg (nb false)]
      show (laws_xRows.f k [] []).bind _ = _
      rw [xr, Option.bind_some, if_pos rfl, if_neg (nb false)]
      show (laws_xSame.f k [] []).bind _ = _
      rw [xs, Option.bind_some, if_pos rfl, if_neg (nb false), Option.bind_some, if_pos rfl, if_neg (nb false), Option.bind_some, if_pos rfl, if_neg (nb (deg L)), if_neg (nb false)]
      cases deg L with
      | true => rw [if_pos rfl, if_neg (nb false), if_neg (nb false), if_neg (nb false)]; exact hj
      | false => rw [if_neg Bool.false_ne_true, if_neg (nb false), if_neg (nb false), if_neg (nb false)]; exact hj
    | true =>
      have hdf : deg L = true ∧ fst L = true := by unfold fs at hf; rwa [Bool.and_eq_true] at hf
      obtain ⟨g, hne, rfl, _⟩ := fst_pre L hdf.1 hdf.2
      have hsz : F.size g ≤ 16 := by rw [← F.pre_len]; exact ((deg_iff _).mp hdf.1).1.2
      have hB : Big g k := ⟨hne, hsz, by omega⟩
      have hB2 : Big g 600001 := ⟨hne, hsz, by omega⟩
      have hj := j0_ok l1 hl1 hB2 k (by omega)
      obtain ⟨e1, e2⟩ := b_trees hB
      obtain ⟨e3, e4⟩ := b_parents hB
      obtain ⟨e5, e6⟩ := b_depths hB
      obtain ⟨e7, e8⟩ := b_mirror hB
      rw [hf, hdf.1] at iI iS
      have hlt := F.len_size g
      have xr := rows_self (F.trs g) (by rw [F.trs_len]; omega) (fun t ht => by
        obtain ⟨c, rfl, hc⟩ := F.trs_mem g t ht
        rw [F.pre_len]; simp only [F.size]; omega) k k3
      have x1 := same_self (F.par (-1) 0 g) (by rw [F.par_len]; omega) k k1
      have x2 := same_self (F.dep 0 g) (by rw [F.dep_len]; omega) k k1
      have x3 := same_self (F.pre (F.mir g)) (by rw [F.pre_len, F.mir_size]; omega) k k1
      rw [e1, Option.bind_some, e2, Option.bind_some, e3, Option.bind_some, e4, Option.bind_some, e5, Option.bind_some, e6, Option.bind_some, e7, Option.bind_some, e8, Option.bind_some, iI, Option.bind_some, iS, Option.bind_some]
      rw [if_neg (nb true)]
      show (laws_xRows.f k (F.trs g) (F.trs g)).bind _ = _
      rw [xr, Option.bind_some, if_pos rfl, if_neg (nb true)]
      show (laws_xSame.f k (F.par (-1) 0 g) (F.par (-1) 0 g)).bind _ = _
      rw [x1, Option.bind_some, if_pos rfl, if_neg (nb true)]
      show (laws_xSame.f k (F.dep 0 g) (F.dep 0 g)).bind _ = _
      rw [x2, Option.bind_some, if_pos rfl, if_neg (nb true)]
      show (laws_xSame.f k (F.pre (F.mir g)) (F.pre (F.mir g))).bind _ = _
      rw [x3, Option.bind_some, if_pos rfl, if_neg (nb true), if_neg (nb true), if_pos rfl, if_neg (nb true), if_neg (nb true), if_neg (nb true)]
      exact hj

end Go.Proofs.Ytjjkglfpcdedlaa.PuqFnForestsTold
namespace Go.Proofs.Ytjjkglfpcdedlaa.Pure
open Go.Proofs.Ytjjkglfpcdedlaa.QFnForestsTold
theorem FnForestsTold : laws_FnForestsTold.Pure := Go.Proofs.Ytjjkglfpcdedlaa.PuqFnForestsTold.FnForestsTold
end Go.Proofs.Ytjjkglfpcdedlaa.Pure
