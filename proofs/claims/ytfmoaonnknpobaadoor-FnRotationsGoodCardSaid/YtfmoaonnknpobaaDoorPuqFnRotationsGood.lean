/- Just so many rotations of degrees are forests as their excess tells, and of paths as many as their ratio leaves, and the program tells them as the reference does; for all arguments of no more than 2^47 bytes. -/
import Derived.Test.YtfmoaonnknpobaaDoorQFnRotationsGoodx9
import Derived.Test.YtfmoaonnknpobaaDoorZpl
namespace Go.Proofs.YtfmoaonnknpobaaDoor.PuqFnRotationsGood
open Go.RowKit Go.Proofs.YtfmoaonnknpobaaDoor.QFnRotationsGood Go.Proofs.YtfmoaonnknpobaaDoorW.PrintWords Go.Proofs.YtfmoaonnknpobaaDoorW.PrintLast Go.Proofs.YtfmoaonnknpobaaDoorPl
set_option linter.unusedVariables false

/-! ### The cycle lemma -/
def mnW (P : Nat → Int) : Nat → Nat → Int
  | a, 0 => P a
  | a, d + 1 => if P a ≤ mnW P (a + 1) d then P a else mnW P (a + 1) d
theorem mnW_le (P : Nat → Int) : ∀ (d a j : Nat), j ≤ d → mnW P a d ≤ P (a + j)
  | 0, a, j, h => by
    obtain rfl : j = 0 := by omega
    exact Int.le_refl _
  | d + 1, a, j, h => by
    unfold mnW
    by_cases e : j = 0
    · subst e
      split
      · exact Int.le_refl _
      · rename_i h1; show _ ≤ P a; omega
    · have := mnW_le P d (a + 1) (j - 1) (by omega)
      rw [show a + 1 + (j - 1) = a + j by omega] at this
      split <;> omega
theorem mnW_ge (P : Nat → Int) (x : Int) : ∀ (d a : Nat), (∀ j, j ≤ d → x ≤ P (a + j)) → x ≤ mnW P a d
  | 0, a, h => h 0 (Nat.le_refl _)
  | d + 1, a, h => by
    have h1 := mnW_ge P x d (a + 1) (fun j hj => by have := h (j + 1) (by omega); rwa [show a + (j + 1) = a + 1 + j by omega] at this)
    have h2 : x ≤ P a := h 0 (by omega)
    unfold mnW
    split <;> omega
theorem mnW_shift (P : Nat → Int) (n : Nat) (c : Int) (h : ∀ i, P (i + n) = P i + c) : ∀ d a : Nat, mnW P (a + n) d = mnW P a d + c
  | 0, a => h a
  | d + 1, a => by
    unfold mnW
    have := mnW_shift P n c h d (a + 1)
    rw [show a + n + 1 = a + 1 + n by omega, this, h a]
    split <;> split <;> omega
/-- Partial sums that rise by at most one: as many strict minima of what follows as a round rises. -/
theorem cyc_up (P : Nat → Int) (n : Nat) (hn : 0 < n) (r : Int) (hr : 1 ≤ r) (hp : ∀ i, P (i + n) = P i + r) (hs : ∀ i, P (i + 1) ≤ P i + 1) (g : Nat → Bool) (hg : ∀ a, g a = true ↔ ∀ j, 1 ≤ j → j ≤ n → P a < P (a + j)) :
    (((List.range n).countP g : Nat) : Int) = r := by
  obtain ⟨m, rfl⟩ : ∃ m, n = m + 1 := ⟨n - 1, by omega⟩
  have step : ∀ a, mnW P (a + 1) m = mnW P a m + (if g a = true then 1 else 0) := by
    intro a
    by_cases c : g a = true
    · rw [if_pos c]
      have hc := (hg a).mp c
      have e1 : mnW P a m = P a := by
        have h1 := mnW_le P m a 0 (Nat.zero_le _)
        have h2 := mnW_ge P (P a) m a (fun j hj => by
          by_cases e : j = 0
          · subst e; exact Int.le_refl _
          · have := hc j (by omega) (by omega); omega)
        rw [Nat.add_zero] at h1
        omega
      have e2 : mnW P (a + 1) m = P a + 1 := by
        have h1 := mnW_le P m (a + 1) 0 (Nat.zero_le _)
        rw [Nat.add_zero] at h1
        have h2 := mnW_ge P (P a + 1) m (a + 1) (fun j hj => by have := hc (j + 1) (by omega) (by omega); rw [show a + (j + 1) = a + 1 + j by omega] at this; omega)
        have := hs a
        omega
      omega
    · rw [if_neg c]
      obtain ⟨j, j1, j2, j3⟩ : ∃ j, 1 ≤ j ∧ j ≤ m + 1 ∧ P (a + j) ≤ P a := by
        apply Classical.byContradiction
        intro hh
        apply c
        refine (hg a).mpr fun j h1 h2 => ?_
        apply Classical.byContradiction
        intro h3
        exact hh ⟨j, h1, h2, by omega⟩
      have ea := hp a
      have jm : j ≤ m := by
        by_cases e : j = m + 1
        · subst e; omega
        · omega
      have h1 : mnW P a m ≤ mnW P (a + 1) m := mnW_ge P _ m (a + 1) (fun i hi => by
        by_cases e : i = m
        · subst e
          have := mnW_le P i a 0 (Nat.zero_le _)
          rw [Nat.add_zero] at this
          rw [show a + 1 + i = a + (i + 1) by omega, ea]
          omega
        · have := mnW_le P m a (i + 1) (by omega)
          rwa [show a + (i + 1) = a + 1 + i by omega] at this)
      have h2 : mnW P (a + 1) m ≤ mnW P a m := mnW_ge P _ m a (fun i hi => by
        by_cases e : i = 0
        · subst e
          have := mnW_le P m (a + 1) (j - 1) (by omega)
          rw [show a + 1 + (j - 1) = a + j by omega] at this
          show _ ≤ P a
          omega
        · have := mnW_le P m (a + 1) (i - 1) (by omega)
          rwa [show a + 1 + (i - 1) = a + i by omega] at this)
      omega
  have tot : ∀ k : Nat, mnW P k m = mnW P 0 m + (((List.range k).countP g : Nat) : Int) := by
    intro k
    induction k with
    | zero => simp
    | succ k ih =>
      rw [step k, ih, List.range_succ, List.countP_append, List.countP_singleton]
      split <;> simp <;> omega
  have t1 := tot (m + 1)
  have t2 := mnW_shift P (m + 1) r hp m 0
  rw [Nat.zero_add] at t2
  omega
/-- Partial sums that fall by at most one: as many strict minima of what came before as a round falls. -/
theorem cyc_down (P : Nat → Int) (n : Nat) (hn : 0 < n) (r : Int) (hr : 1 ≤ r) (hp : ∀ i, P (i + n) = P i - r) (hs : ∀ i, P i - 1 ≤ P (i + 1)) (g : Nat → Bool) (hg : ∀ a, g a = true ↔ ∀ j, j < n → P (a + n) < P (a + j)) :
    (((List.range n).countP g : Nat) : Int) = r := by
  obtain ⟨m, rfl⟩ : ∃ m, n = m + 1 := ⟨n - 1, by omega⟩
  have step : ∀ a, mnW P (a + 1) m = mnW P a m - (if g a = true then 1 else 0) := by
    intro a
    have ea := hp a
    by_cases c : g a = true
    · rw [if_pos c]
      have hc := (hg a).mp c
      have e2 : mnW P (a + 1) m = P (a + (m + 1)) := by
        have h1 := mnW_le P m (a + 1) m (Nat.le_refl _)
        rw [show a + 1 + m = a + (m + 1) by omega] at h1
        have h2 := mnW_ge P (P (a + (m + 1))) m (a + 1) (fun j hj => by
          by_cases e : j = m
          · subst e; rw [show a + 1 + j = a + (j + 1) by omega]; exact Int.le_refl _
          · have := hc (j + 1) (by omega); rw [show a + (j + 1) = a + 1 + j by omega] at this; omega)
        omega
      have e1 : mnW P a m = P (a + (m + 1)) + 1 := by
        have h1 := mnW_le P m a m (Nat.le_refl _)
        have h2 := mnW_ge P (P (a + (m + 1)) + 1) m a (fun j hj => by have := hc j (by omega); omega)
        have := hs (a + m)
        rw [show a + m + 1 = a + (m + 1) by omega] at this
        omega
      omega
    · rw [if_neg c]
      obtain ⟨j, j1, j2⟩ : ∃ j, j < m + 1 ∧ P (a + j) ≤ P (a + (m + 1)) := by
        apply Classical.byContradiction
        intro hh
        apply c
        refine (hg a).mpr fun j h1 => ?_
        apply Classical.byContradiction
        intro h3
        exact hh ⟨j, h1, by omega⟩
      have j0 : 1 ≤ j := by
        by_cases e : j = 0
        · subst e; rw [Nat.add_zero] at j2; omega
        · omega
      have h1 : mnW P a m ≤ mnW P (a + 1) m := mnW_ge P _ m (a + 1) (fun i hi => by
        by_cases e : i = m
        · subst e
          have := mnW_le P i a j (by omega)
          rw [show a + 1 + i = a + (i + 1) by omega]
          omega
        · have := mnW_le P m a (i + 1) (by omega)
          rwa [show a + (i + 1) = a + 1 + i by omega] at this)
      have h2 : mnW P (a + 1) m ≤ mnW P a m := mnW_ge P _ m a (fun i hi => by
        by_cases e : i = 0
        · subst e
          have := mnW_le P m (a + 1) m (Nat.le_refl _)
          rw [show a + 1 + m = a + (m + 1) by omega] at this
          show _ ≤ P a
          omega
        · have := mnW_le P m (a + 1) (i - 1) (by omega)
          rwa [show a + 1 + (i - 1) = a + i by omega] at this)
      omega
  have tot : ∀ k : Nat, mnW P k m = mnW P 0 m - (((List.range k).countP g : Nat) : Int) := by
    intro k
    induction k with
    | zero => simp
    | succ k ih =>
      rw [step k, ih, List.range_succ, List.countP_append, List.countP_singleton]
      split <;> simp <;> omega
  have t1 := tot (m + 1)
  have t2 := mnW_shift P (m + 1) (-r) (fun i => by rw [hp i]; omega) m 0
  rw [Nat.zero_add] at t2
  omega

theorem paGood_l (s : ByteArray) (hn : s.size ≤ 1048576) (d : Nat) : ∀ (k i : Nat), i + d = s.size → d < k → spec_paGood.l0 k s (i : Int) = some ((List.range' i d).all fun j => decide (bt s (j : Int) = 85 ∨ bt s (j : Int) = 68)) := by
  induction d with
  | zero =>
    intro k i h1 h2
    obtain ⟨k, rfl⟩ : ∃ m, k = m + 1 := ⟨k - 1, by omega⟩
    simp only [spec_paGood.l0]
    rw [if_neg (by omega)]
    rfl
  | succ d ih =>
    intro k i h1 h2
    obtain ⟨k, rfl⟩ : ∃ m, k = m + 1 := ⟨k - 1, by omega⟩
    simp only [spec_paGood.l0]
    rw [if_pos (by omega), if_pos (by omega), w64 (by omega) (by omega), show ((i : Int) + 1) = ((i + 1 : Nat) : Int) by omega, ih k (i + 1) (by omega) (by omega), List.range'_succ, List.all_cons]
    by_cases h' : bt s (i : Int) = 85
    · rw [if_pos h', decide_eq_true (.inl h'), Bool.true_and]
    · rw [if_neg h']
      by_cases h : bt s (i : Int) = 68
      · rw [if_pos h, decide_eq_true (.inr h), Bool.true_and]
      · rw [if_neg h, decide_eq_false (fun H => H.elim h' h), Bool.false_and]

theorem paGood_eq (s : ByteArray) (k : Nat) (hk : 41 < k) : spec_paGood.f k s = some (decide (s.size ≤ 40) && isP s) := by
  unfold spec_paGood.f
  by_cases h : s.size ≤ 40
  · rw [if_neg (by omega)]
    have := paGood_l s (by omega) s.size k 0 (by omega) (by omega)
    rw [show ((0 : Nat) : Int) = 0 from rfl] at this
    rw [this]
    congr 1
    rw [Bool.eq_iff_iff, List.all_eq_true]
    simp only [decide_eq_true_eq, Bool.and_eq_true]
    rw [all_of_bt]
    exact ⟨fun H => ⟨h, fun i hi => H i (by rw [List.mem_range'_1]; omega)⟩, fun H i hi => H.2 i (by rw [List.mem_range'_1] at hi; omega)⟩
  · rw [if_pos (by omega)]
    simp [h]

theorem isPath_eq (s : ByteArray) (hs : s.size ≤ 140737488351232) : impl_IsPath.f s = some (decide (s.size ≤ 40) && isP s) := by
  unfold impl_IsPath.f
  by_cases h : s.size ≤ 40
  · rw [if_pos (by omega)]
    unfold strings_Trim.f
    rw [if_pos (by omega), if_pos (by decide), if_pos (by decide)]
    simp only [Option.bind_some, Option.some.injEq]
    rw [trim_eq]
    simp only [h, decide_true, Bool.true_and]
    unfold isP
    congr 1
    funext b
    rw [Bool.eq_iff_iff]
    simp
  · rw [if_neg (by omega)]
    simp [h]

theorem bt_list (s : ByteArray) (i : Nat) (hi : i < s.data.toList.length) : bt s (i : Int) = ((s.data.toList[i]'hi).toNat : Int) := by
  unfold bt; rw [dif_pos (by simpa using hi)]
  simp only [Int.toNat_natCast]
  rfl
theorem bt_abcd (t : Int) (h0 : 0 ≤ t) (h1 : t ≤ 3) : bt (⟨#[97, 98, 99, 100]⟩ : ByteArray) t = 97 + t := by
  obtain h | h | h | h : t = 0 ∨ t = 1 ∨ t = 2 ∨ t = 3 := by omega
  all_goals subst h; rfl

/-! ### Lists of degrees, their rotations -/
theorem rw_suc (i : Nat) (h : i ≤ 100000) : wrap64 ((i : Int) + 1) = ((i + 1 : Nat) : Int) := by rw [w64 (by omega) (by omega)]; omega
theorem rl (a b : Nat) (h : a < b) : (a : Int) < (b : Int) := by omega
theorem rnl (a b : Nat) (h : ¬ a < b) : ¬ (a : Int) < (b : Int) := by omega
theorem rdg (xs : List Int) (i : Nat) : rd xs (i : Int) = xs.getD i 0 := by unfold rd; rw [Int.toNat_natCast]
theorem getD_lt (xs : List Int) (i : Nat) (h : i < xs.length) : xs.getD i 0 = xs[i] := by rw [List.getD_eq_getElem?_getD, List.getElem?_eq_getElem h]; rfl
/-- Are these degrees? -/
def deg (L : List Int) : Bool := (decide (1 ≤ L.length) && decide (L.length ≤ 16)) && L.all fun x => decide (0 ≤ x) && decide (x ≤ 16)
theorem deg_iff (L : List Int) : deg L = true ↔ (1 ≤ L.length ∧ L.length ≤ 16) ∧ ∀ x ∈ L, 0 ≤ x ∧ x ≤ 16 := by
  unfold deg
  rw [Bool.and_eq_true, Bool.and_eq_true, List.all_eq_true, decide_eq_true_eq, decide_eq_true_eq]
  exact ⟨fun h => ⟨h.1, fun x hx => by have := h.2 x hx; simpa using this⟩, fun h => ⟨h.1, fun x hx => by have := h.2 x hx; simpa using this⟩⟩
theorem deg_get (L : List Int) (h : ∀ x ∈ L, 0 ≤ x ∧ x ≤ 16) (i : Nat) (hi : i < L.length) : 0 ≤ L.getD i 0 ∧ L.getD i 0 ≤ 16 := by rw [getD_lt L i hi]; exact h _ (List.getElem_mem hi)
theorem in_d (a b c : Int) : impl_in.f a b c = some (decide (b ≤ a) && decide (a ≤ c)) := by
  unfold impl_in.f
  by_cases h : b ≤ a
  · rw [if_pos h, decide_eq_true h, Bool.true_and]
  · rw [if_neg h, decide_eq_false h, Bool.false_and]
theorem l1In_d (a b c : Int) : spec_l1In.f a b c = some (decide (b ≤ a) && decide (a ≤ c)) := by
  unfold spec_l1In.f
  by_cases h : b ≤ a
  · rw [if_pos h, decide_eq_true h, Bool.true_and]
  · rw [if_neg h, decide_eq_false h, Bool.false_and]
def inD (x : Int) : Bool := decide (0 ≤ x) && decide (x ≤ 16)
theorem idx_l (L : List Int) (hl : L.length ≤ 1000) (d : Nat) : ∀ i k : Nat, i + d = L.length → d < k → ∃ r, slices_IndexFunc_int_int.l0 k impl_IsDegrees_1.f L (L.length : Int) (i : Int) = some r ∧ decide (r ≥ 0) = !(L.drop i).all inD := by
  induction d with
  | zero =>
    intro i k h1 h2
    obtain ⟨k, rfl⟩ : ∃ m, k = m + 1 := ⟨k - 1, by omega⟩
    refine ⟨-1, ?_, ?_⟩
    · simp only [slices_IndexFunc_int_int.l0]
      rw [if_neg (rnl _ _ (by omega))]
    · rw [List.drop_eq_nil_of_le (by omega)]; rfl
  | succ d ih =>
    intro i k h1 h2
    obtain ⟨k, rfl⟩ : ∃ m, k = m + 1 := ⟨k - 1, by omega⟩
    have hi : i < L.length := by omega
    have e1 := rw_suc i (by omega)
    simp only [slices_IndexFunc_int_int.l0, e1, rdg]
    rw [if_pos (rl _ _ hi), if_pos (Int.natCast_nonneg i), if_pos (rl _ _ hi), List.drop_eq_getElem_cons hi, List.all_cons, ← getD_lt L i hi]
    have ef : impl_IsDegrees_1.f (L.getD i 0) = !inD (L.getD i 0) := rfl
    rw [ef]
    cases c : inD (L.getD i 0) with
    | true =>
      rw [if_neg (by simp), Bool.true_and]
      exact ih (i + 1) k (by omega) (by omega)
    | false =>
      rw [if_pos (by simp), Bool.false_and]
      exact ⟨(i : Int), rfl, by rw [decide_eq_true (Int.natCast_nonneg i)]; rfl⟩
theorem isDeg_eq (L : List Int) (k : Nat) (hk : 1000 < k) : impl_IsDegrees.f k L = some (deg L) := by
  unfold impl_IsDegrees.f deg
  rw [in_d]
  simp only [Option.bind_some]
  by_cases h : 1 ≤ L.length ∧ L.length ≤ 16
  · have e : (decide ((1 : Int) ≤ (L.length : Int)) && decide ((L.length : Int) ≤ 16)) = true := by simp; omega
    have e2 : (decide (1 ≤ L.length) && decide (L.length ≤ 16)) = true := by simp [h]
    rw [e, if_pos rfl, e2, Bool.true_and]
    unfold slices_ContainsFunc_int_int.f slices_IndexFunc_int_int.f
    obtain ⟨r, h1, h2⟩ := idx_l L (by omega) L.length 0 k (by omega) (by omega)
    have h1 : slices_IndexFunc_int_int.l0 k impl_IsDegrees_1.o.f L (L.length : Int) 0 = some r := h1
    rw [h1]
    simp only [Option.bind_some]
    rw [h2, List.drop_zero, Bool.not_not]
    rfl
  · have e : (decide ((1 : Int) ≤ (L.length : Int)) && decide ((L.length : Int) ≤ 16)) = false := by
      rw [Bool.and_eq_false_iff, decide_eq_false_iff_not, decide_eq_false_iff_not]; omega
    have e2 : (decide (1 ≤ L.length) && decide (L.length ≤ 16)) = false := by rw [Bool.and_eq_false_iff, decide_eq_false_iff_not, decide_eq_false_iff_not]; omega
    rw [e, if_neg Bool.false_ne_true, e2, Bool.false_and]
theorem all_l (L : List Int) (hl : L.length ≤ 1000) (d : Nat) : ∀ i k : Nat, i + d = L.length → d < k → spec_l1All.l0 k 0 16 L (L.length : Int) (i : Int) = some ((L.drop i).all inD) := by
  induction d with
  | zero =>
    intro i k h1 h2
    obtain ⟨k, rfl⟩ : ∃ m, k = m + 1 := ⟨k - 1, by omega⟩
    simp only [spec_l1All.l0]
    rw [if_neg (rnl _ _ (by omega)), List.drop_eq_nil_of_le (by omega)]; rfl
  | succ d ih =>
    intro i k h1 h2
    obtain ⟨k, rfl⟩ : ∃ m, k = m + 1 := ⟨k - 1, by omega⟩
    have hi : i < L.length := by omega
    have e1 := rw_suc i (by omega)
    simp only [spec_l1All.l0, e1, rdg, l1In_d, Option.bind_some]
    rw [if_pos (rl _ _ hi), if_pos (Int.natCast_nonneg i), if_pos (rl _ _ hi), List.drop_eq_getElem_cons hi, List.all_cons, ← getD_lt L i hi, ih (i + 1) k (by omega) (by omega)]
    show (if inD (L.getD i 0) = true then _ else _) = some (inD (L.getD i 0) && _)
    cases inD (L.getD i 0) <;> rfl
theorem cyGood_eq (L : List Int) (k : Nat) (hk : 1000 < k) : spec_cyGood.f k L = some (deg L) := by
  unfold spec_cyGood.f deg
  rw [l1In_d]
  simp only [Option.bind_some]
  by_cases h : 1 ≤ L.length ∧ L.length ≤ 16
  · have e : (decide ((1 : Int) ≤ (L.length : Int)) && decide ((L.length : Int) ≤ 16)) = true := by simp; omega
    have e2 : (decide (1 ≤ L.length) && decide (L.length ≤ 16)) = true := by simp [h]
    rw [e, if_pos rfl, e2, Bool.true_and]
    unfold spec_l1All.f
    have := all_l L (by omega) L.length 0 k (by omega) (by omega)
    rw [List.drop_zero] at this
    have h3 : spec_l1All.l0 k 0 16 L (L.length : Int) 0 = _ := this
    rw [h3]; rfl
  · have e : (decide ((1 : Int) ≤ (L.length : Int)) && decide ((L.length : Int) ≤ 16)) = false := by
      rw [Bool.and_eq_false_iff, decide_eq_false_iff_not, decide_eq_false_iff_not]; omega
    have e2 : (decide (1 ≤ L.length) && decide (L.length ≤ 16)) = false := by rw [Bool.and_eq_false_iff, decide_eq_false_iff_not, decide_eq_false_iff_not]; omega
    rw [e, if_neg Bool.false_ne_true, e2, Bool.false_and]
/-! ### Excess, sums -/
theorem ex_w (acc x : Int) (h : -1000000 ≤ acc ∧ acc ≤ 1000000) (hx : 0 ≤ x ∧ x ≤ 16) : wrap64 (acc - x) = acc - x := w64 (by omega) (by omega)
theorem ad_w (acc x : Int) (h : -1000000 ≤ acc ∧ acc ≤ 1000000) (hx : 0 ≤ x ∧ x ≤ 16) : wrap64 (acc + x) = acc + x := w64 (by omega) (by omega)
theorem exI_l (L : List Int) (hL : ∀ x ∈ L, 0 ≤ x ∧ x ≤ 16) (hl : L.length ≤ 1000) (d : Nat) : ∀ (i k : Nat) (acc : Int), i + d = L.length → d < k → -1000000 + 16 * (d : Int) ≤ acc → acc ≤ 1000000 → impl_excess.l0 k acc L (L.length : Int) (i : Int) = some (acc - (L.drop i).sum) := by
  induction d with
  | zero =>
    intro i k acc h1 h2 h3 h4
    obtain ⟨k, rfl⟩ : ∃ m, k = m + 1 := ⟨k - 1, by omega⟩
    simp only [impl_excess.l0]
    rw [if_neg (rnl _ _ (by omega)), List.drop_eq_nil_of_le (by omega), List.sum_nil]; congr 1; omega
  | succ d ih =>
    intro i k acc h1 h2 h3 h4
    obtain ⟨k, rfl⟩ : ∃ m, k = m + 1 := ⟨k - 1, by omega⟩
    have hi : i < L.length := by omega
    have e1 := rw_suc i (by omega)
    have hx := deg_get L hL i hi
    have e2 := ex_w acc (L.getD i 0) (by omega) hx
    simp only [impl_excess.l0, e1, rdg, e2]
    rw [if_pos (rl _ _ hi), if_pos (Int.natCast_nonneg i), if_pos (rl _ _ hi), List.drop_eq_getElem_cons hi, List.sum_cons, ← getD_lt L i hi, ih (i + 1) k _ (by omega) (by omega) (by omega) (by omega)]
    congr 1; omega
theorem exS_l (L : List Int) (hL : ∀ x ∈ L, 0 ≤ x ∧ x ≤ 16) (hl : L.length ≤ 1000) (d : Nat) : ∀ (i k : Nat) (acc : Int), i + d = L.length → d < k → -1000000 + 16 * (d : Int) ≤ acc → acc ≤ 1000000 → spec_cyExcess.l0 k acc L (L.length : Int) (i : Int) = some (acc - (L.drop i).sum) := by
  induction d with
  | zero =>
    intro i k acc h1 h2 h3 h4
    obtain ⟨k, rfl⟩ : ∃ m, k = m + 1 := ⟨k - 1, by omega⟩
    simp only [spec_cyExcess.l0]
    rw [if_neg (rnl _ _ (by omega)), List.drop_eq_nil_of_le (by omega), List.sum_nil]; congr 1; omega
  | succ d ih =>
    intro i k acc h1 h2 h3 h4
    obtain ⟨k, rfl⟩ : ∃ m, k = m + 1 := ⟨k - 1, by omega⟩
    have hi : i < L.length := by omega
    have e1 := rw_suc i (by omega)
    have hx := deg_get L hL i hi
    have e2 := ex_w acc (L.getD i 0) (by omega) hx
    simp only [spec_cyExcess.l0, e1, rdg, e2]
    rw [if_pos (rl _ _ hi), if_pos (Int.natCast_nonneg i), if_pos (rl _ _ hi), List.drop_eq_getElem_cons hi, List.sum_cons, ← getD_lt L i hi, ih (i + 1) k _ (by omega) (by omega) (by omega) (by omega)]
    congr 1; omega
theorem xSum_l (L : List Int) (hL : ∀ x ∈ L, 0 ≤ x ∧ x ≤ 16) (hl : L.length ≤ 1000) (d : Nat) : ∀ (i k : Nat) (acc : Int), i + d = L.length → d < k → -1000000 ≤ acc → acc + 16 * (d : Int) ≤ 1000000 → laws_xSum.l0 k acc L (L.length : Int) (i : Int) = some (acc + (L.drop i).sum) := by
  induction d with
  | zero =>
    intro i k acc h1 h2 h3 h4
    obtain ⟨k, rfl⟩ : ∃ m, k = m + 1 := ⟨k - 1, by omega⟩
    simp only [laws_xSum.l0]
    rw [if_neg (rnl _ _ (by omega)), List.drop_eq_nil_of_le (by omega), List.sum_nil]; congr 1; omega
  | succ d ih =>
    intro i k acc h1 h2 h3 h4
    obtain ⟨k, rfl⟩ : ∃ m, k = m + 1 := ⟨k - 1, by omega⟩
    have hi : i < L.length := by omega
    have e1 := rw_suc i (by omega)
    have hx := deg_get L hL i hi
    have e2 := ad_w acc (L.getD i 0) (by omega) hx
    simp only [laws_xSum.l0, e1, rdg, e2]
    rw [if_pos (rl _ _ hi), if_pos (Int.natCast_nonneg i), if_pos (rl _ _ hi), List.drop_eq_getElem_cons hi, List.sum_cons, ← getD_lt L i hi, ih (i + 1) k _ (by omega) (by omega) (by omega) (by omega)]
    congr 1; omega
/-- The excess. -/
def exc (L : List Int) : Int := (L.length : Int) - L.sum
theorem excI (L : List Int) (hL : ∀ x ∈ L, 0 ≤ x ∧ x ≤ 16) (hl : L.length ≤ 1000) (k : Nat) (hk : 1000 < k) : impl_excess.f k L = some (exc L) := by
  have := exI_l L hL hl L.length 0 k (L.length : Int) (by omega) (by omega) (by omega) (by omega)
  rw [List.drop_zero] at this
  exact this
theorem excS (L : List Int) (hL : ∀ x ∈ L, 0 ≤ x ∧ x ≤ 16) (hl : L.length ≤ 1000) (k : Nat) (hk : 1000 < k) : spec_cyExcess.f k L = some (exc L) := by
  have := exS_l L hL hl L.length 0 k (L.length : Int) (by omega) (by omega) (by omega) (by omega)
  rw [List.drop_zero] at this
  exact this
theorem xSum_eq (L : List Int) (hL : ∀ x ∈ L, 0 ≤ x ∧ x ≤ 16) (hl : L.length ≤ 1000) (k : Nat) (hk : 1000 < k) : laws_xSum.f k L = some L.sum := by
  have := xSum_l L hL hl L.length 0 k 0 (by omega) (by omega) (by omega) (by omega)
  rw [List.drop_zero, Int.zero_add] at this
  exact this
theorem sum_b (L : List Int) (h : ∀ x ∈ L, 0 ≤ x ∧ x ≤ 16) : 0 ≤ L.sum ∧ L.sum ≤ 16 * (L.length : Int) := by
  induction L with
  | nil => simp
  | cons x xs ih =>
    have h1 := h x List.mem_cons_self
    have h2 := ih fun y hy => h y (List.mem_cons_of_mem _ hy)
    rw [List.sum_cons, List.length_cons]
    omega

/-! ### Rotations, forests -/
def rot (L : List Int) (k : Nat) : List Int := L.drop k ++ L.take k
theorem rot_len (L : List Int) (k : Nat) : (rot L k).length = L.length := by unfold rot; rw [List.length_append, List.length_drop, List.length_take]; omega
theorem rot_mem (L : List Int) (k : Nat) (x : Int) : x ∈ rot L k ↔ x ∈ L := by
  unfold rot
  rw [List.mem_append]
  constructor
  · rintro (h | h)
    · exact List.mem_of_mem_drop h
    · exact List.mem_of_mem_take h
  · intro h
    rw [← List.take_append_drop k L, List.mem_append] at h
    exact h.symm
theorem rot_deg (L : List Int) (k : Nat) : deg (rot L k) = deg L := by
  rw [Bool.eq_iff_iff, deg_iff, deg_iff, rot_len]
  exact ⟨fun h => ⟨h.1, fun x hx => h.2 x ((rot_mem L k x).mpr hx)⟩, fun h => ⟨h.1, fun x hx => h.2 x ((rot_mem L k x).mp hx)⟩⟩
theorem rot_sum (L : List Int) (k : Nat) : (rot L k).sum = L.sum := by
  unfold rot
  rw [List.sum_append, Int.add_comm, ← List.sum_append, List.take_append_drop]
theorem rot_exc (L : List Int) (k : Nat) : exc (rot L k) = exc L := by unfold exc; rw [rot_len, rot_sum]
theorem rot_back (L : List Int) (k : Nat) (hk : k ≤ L.length) : rot (rot L k) (L.length - k) = L := by
  unfold rot
  have h1 : (L.drop k).length = L.length - k := List.length_drop
  have e1 : (L.drop k).drop (L.length - k) = [] := List.drop_eq_nil_of_le (by omega)
  have e2 : (L.drop k).take (L.length - k) = L.drop k := List.take_of_length_le (by omega)
  rw [List.drop_append_of_le_length (by omega), List.take_append_of_le_length (by omega), e1, e2, List.nil_append, List.take_append_drop]
theorem rot_zero (L : List Int) : rot L 0 = L := by unfold rot; rw [List.drop_zero, List.take_zero, List.append_nil]
theorem rd2 (A B : List Int) : rd_L2 [A, B] 0 = A ∧ rd_L2 [A, B] 1 = B := ⟨rfl, rfl⟩
theorem sz_w (a b : Nat) (h : a + b ≤ 1000) : wrap64 (0 + (a : Int)) = (a : Int) ∧ wrap64 ((a : Int) + (b : Int)) = ((a + b : Nat) : Int) ∧ ¬ wrap64 (0 + (a : Int)) < 0 ∧ ¬ ((a + b : Nat) : Int) < 0 ∧ (0 : Int) ≤ ((a + b : Nat) : Int) ∧ ((a + b : Nat) : Int) ≤ 17592186044416 := by
  have h1 : wrap64 (0 + (a : Int)) = (a : Int) := by rw [w64 (by omega) (by omega)]; omega
  have h2 : wrap64 ((a : Int) + (b : Int)) = ((a + b : Nat) : Int) := by rw [w64 (by omega) (by omega)]; omega
  refine ⟨h1, h2, ?_, by omega, by omega, by omega⟩
  rw [h1]; omega
theorem concat_eq (A B : List Int) (h : A.length + B.length ≤ 1000) (k : Nat) (hk : 10 < k) : slices_Concat_int_int.f k [A, B] = some (A ++ B) := by
  obtain ⟨k, rfl⟩ : ∃ m, k = m + 6 := ⟨k - 6, by omega⟩
  obtain ⟨z1, z2, z3, z4, z5, z6⟩ := sz_w A.length B.length h
  have v1 : wrap64 (0 + 1) = 1 := by rw [w64 (by omega) (by omega)]; rfl
  have v2 : wrap64 (1 + 1) = 2 := by rw [w64 (by omega) (by omega)]; rfl
  obtain ⟨r0, r1⟩ := rd2 A B
  have l2 : (([A, B] : List (List Int)).length : Int) = 2 := rfl
  have g : slices_Grow_int_int.f ((A.length + B.length : Nat) : Int) = some [] := by unfold slices_Grow_int_int.f; rw [if_pos z5, if_pos z6]
  unfold slices_Concat_int_int.f
  rw [slices_Concat_int_int.l0, l2, if_pos (by decide), if_pos (by decide), if_pos (by decide), r0, if_neg z3, z1, v1, slices_Concat_int_int.l0, l2, if_pos (by decide), if_pos (by decide), if_pos (by decide), r1, z2, if_neg z4, v2, slices_Concat_int_int.l0, if_neg (by decide), g, Option.bind_some, l2]
  rw [slices_Concat_int_int.l1, l2, if_pos (by decide), if_pos (by decide), if_pos (by decide), r0, if_pos (by simp; omega), v1, slices_Concat_int_int.l1, l2, if_pos (by decide), if_pos (by decide), if_pos (by decide), r1, if_pos (by simp; omega), v2, slices_Concat_int_int.l1, if_neg (by decide), List.nil_append]
theorem rotI (L : List Int) (hl : L.length ≤ 100) (j : Nat) (hj : j ≤ L.length) (k : Nat) (hk : 10 < k) : impl_rotated.f k L (j : Int) = some (rot L j) := by
  unfold impl_rotated.f
  rw [if_pos (Int.natCast_nonneg j), if_pos (by omega), Int.toNat_natCast, concat_eq _ _ (by rw [List.length_drop, List.length_take]; omega) k hk]
  rfl
theorem rotS (L : List Int) (hl : L.length ≤ 100) (j : Nat) (hj : j ≤ L.length) : spec_cyRotate.f L (j : Int) = some (rot L j) := by
  unfold spec_cyRotate.f spec_l1Own.f
  rw [if_pos (Int.natCast_nonneg j), if_pos (by omega), Int.toNat_natCast]
  simp only [Option.bind_some, List.nil_append, List.length_nil]
  rw [if_pos (by rw [List.length_drop]; omega), Option.bind_some, if_pos (by rw [List.length_drop, List.length_take]; omega)]
  rfl
/-- Sums of the first degrees, less one each. -/
def ps (L : List Int) : Nat → Int
  | 0 => 0
  | j + 1 => ps L j + (L.getD j 0 - 1)
theorem ps_b (L : List Int) (hL : ∀ x ∈ L, 0 ≤ x ∧ x ≤ 16) : ∀ j : Nat, -(j : Int) ≤ ps L j ∧ ps L j ≤ 15 * (j : Int)
  | 0 => by simp [ps]
  | j + 1 => by
    have ih := ps_b L hL j
    have hx : 0 ≤ L.getD j 0 ∧ L.getD j 0 ≤ 16 := by
      by_cases h : j < L.length
      · exact deg_get L hL j h
      · rw [List.getD_eq_getElem?_getD, List.getElem?_eq_none (by omega)]; simp
    unfold ps
    omega
def ok1 (L : List Int) (j : Nat) : Bool := decide (-(exc L) < ps L (j + 1))
/-- Are degrees a forest? -/
def fst (L : List Int) : Bool := decide (1 ≤ exc L) && (List.range (L.length - 1)).all (ok1 L)
theorem fo_w (s x : Int) (hs : -2000 ≤ s ∧ s ≤ 2000) (hx : 0 ≤ x ∧ x ≤ 16) : wrap64 (s + wrap64 (x - 1)) = s + (x - 1) := by rw [w64 (x := x - 1) (by omega) (by omega), w64 (by omega) (by omega)]
theorem neg_w (r : Int) (h : -1000 ≤ r ∧ r ≤ 1000) : wrap64 (-r) = -r := w64 (by omega) (by omega)
theorem exc_b (L : List Int) (hL : ∀ x ∈ L, 0 ≤ x ∧ x ≤ 16) (hl : L.length ≤ 17) : -1000 ≤ exc L ∧ exc L ≤ 1000 := by
  have := sum_b L hL
  unfold exc
  omega
theorem foI_l (L : List Int) (hL : ∀ x ∈ L, 0 ≤ x ∧ x ≤ 16) (hl : L.length ≤ 17) (n : Nat) (hn : n ≤ L.length) (d : Nat) : ∀ i k : Nat, i + d = n → d < k →
    impl_isForest.l0 k (exc L) (ps L i) (L.take n) ((L.take n).length : Int) (i : Int) = some ((List.range' i d).all (ok1 L) && decide (1 ≤ exc L)) := by
  have hlen : (L.take n).length = n := by rw [List.length_take]; omega
  induction d with
  | zero =>
    intro i k h1 h2
    obtain ⟨k, rfl⟩ : ∃ m, k = m + 1 := ⟨k - 1, by omega⟩
    simp only [impl_isForest.l0]
    rw [hlen, if_neg (rnl _ _ (by omega))]; rfl
  | succ d ih =>
    intro i k h1 h2
    obtain ⟨k, rfl⟩ : ∃ m, k = m + 1 := ⟨k - 1, by omega⟩
    have hi : i < n := by omega
    have hi2 : i < L.length := by omega
    have e1 := rw_suc i (by omega)
    have eg : rd (L.take n) (i : Int) = L.getD i 0 := by rw [rdg, List.getD_eq_getElem?_getD, List.getD_eq_getElem?_getD, List.getElem?_take_of_lt hi]
    have hb := ps_b L hL i
    have e2 := fo_w (ps L i) (L.getD i 0) (by omega) (deg_get L hL i hi2)
    have e3 := neg_w (exc L) (exc_b L hL hl)
    have f := ih (i + 1) k (by omega) (by omega)
    simp only [impl_isForest.l0, e1, eg, e2, e3]
    rw [hlen] at f ⊢
    rw [if_pos (rl _ _ hi), if_pos (Int.natCast_nonneg i), if_pos (rl _ _ hi), List.range'_succ, List.all_cons]
    have eo : ok1 L i = decide (-(exc L) < ps L i + (L.getD i 0 - 1)) := rfl
    by_cases c : ps L i + (L.getD i 0 - 1) ≤ -(exc L)
    · rw [if_pos c, eo, decide_eq_false (by omega)]; rfl
    · rw [if_neg c, eo, decide_eq_true (by omega), Bool.true_and]
      exact f
theorem foI (L : List Int) (h : deg L = true) (k : Nat) (hk : 1000 < k) : impl_isForest.f k L = some (fst L) := by
  obtain ⟨⟨h1, h2⟩, h3⟩ := (deg_iff L).mp h
  have e1 : wrap64 ((L.length : Int) - 1) = ((L.length - 1 : Nat) : Int) := by rw [w64 (by omega) (by omega)]; omega
  unfold impl_isForest.f
  rw [excI L h3 (by omega) k hk, Option.bind_some, e1, if_pos (Int.natCast_nonneg _), if_pos (by omega), Int.toNat_natCast]
  have := foI_l L h3 (by omega) (L.length - 1) (by omega) (L.length - 1) 0 k (by omega) (by omega)
  have h4 : impl_isForest.l0 k (exc L) 0 (L.take (L.length - 1)) ((L.take (L.length - 1)).length : Int) 0 = _ := this
  rw [h4, ← List.range_eq_range', Bool.and_comm]
  rfl
theorem foS_l (L : List Int) (hL : ∀ x ∈ L, 0 ≤ x ∧ x ≤ 16) (hl : L.length ≤ 17) (d : Nat) : ∀ i k : Nat, i + d = L.length → d < k →
    spec_cyForest.l0 k L (exc L) (ps L i) L (L.length : Int) (i : Int) = some ((List.range' i (d - 1)).all (ok1 L)) := by
  induction d with
  | zero =>
    intro i k h1 h2
    obtain ⟨k, rfl⟩ : ∃ m, k = m + 1 := ⟨k - 1, by omega⟩
    simp only [spec_cyForest.l0]
    rw [if_neg (rnl _ _ (by omega))]; rfl
  | succ d ih =>
    intro i k h1 h2
    obtain ⟨k, rfl⟩ : ∃ m, k = m + 1 := ⟨k - 1, by omega⟩
    have hi : i < L.length := by omega
    have e1 := rw_suc i (by omega)
    have hb := ps_b L hL i
    have e2 := fo_w (ps L i) (L.getD i 0) (by omega) (deg_get L hL i hi)
    have e3 := neg_w (exc L) (exc_b L hL hl)
    have f := ih (i + 1) k (by omega) (by omega)
    have f' : spec_cyForest.l0 k L (exc L) (ps L i + (L.getD i 0 - 1)) L (L.length : Int) ((i + 1 : Nat) : Int) = _ := f
    simp only [spec_cyForest.l0, e1, rdg, e2, e3]
    rw [if_pos (rl _ _ hi), if_pos (Int.natCast_nonneg i), if_pos (rl _ _ hi), f']
    have eo : ok1 L i = decide (-(exc L) < ps L i + (L.getD i 0 - 1)) := rfl
    by_cases hd : d = 0
    · subst hd
      rw [if_neg (rnl (i + 1) L.length (by omega))]
      split <;> rfl
    · obtain ⟨d', rfl⟩ : ∃ d', d = d' + 1 := ⟨d - 1, by omega⟩
      rw [show d' + 1 + 1 - 1 = d' + 1 by omega, show d' + 1 - 1 = d' by omega, List.range'_succ, List.all_cons, if_pos (rl (i + 1) L.length (by omega))]
      by_cases c : ps L i + (L.getD i 0 - 1) ≤ -(exc L)
      · rw [if_pos c, eo, decide_eq_false (by omega)]; rfl
      · rw [if_neg c, eo, decide_eq_true (by omega), Bool.true_and]
theorem foS (L : List Int) (h : deg L = true) (k : Nat) (hk : 1000 < k) : spec_cyForest.f k L = some (fst L) := by
  obtain ⟨⟨h1, h2⟩, h3⟩ := (deg_iff L).mp h
  unfold spec_cyForest.f fst
  rw [excS L h3 (by omega) k hk, Option.bind_some]
  by_cases c : exc L < 1
  · rw [if_pos c, decide_eq_false (by omega)]; rfl
  · rw [if_neg c, decide_eq_true (by omega), Bool.true_and]
    have := foS_l L h3 (by omega) L.length 0 k (by omega) (by omega)
    have h4 : spec_cyForest.l0 k L (exc L) 0 L (L.length : Int) 0 = _ := this
    rw [h4, ← List.range_eq_range']

/-! ### Good rotations -/
def gl (p : Nat → Bool) (n : Nat) : List Int := ((List.range n).filter p).map fun j : Nat => (j : Int)
theorem gl_succ (p : Nat → Bool) (n : Nat) : gl p (n + 1) = if p n = true then gl p n ++ [(n : Int)] else gl p n := by
  unfold gl
  rw [List.range_succ, List.filter_append]
  by_cases c : p n = true
  · rw [if_pos c, show [n].filter p = [n] by simp [c], List.map_append]; rfl
  · rw [if_neg c, show [n].filter p = [] by simp [c], List.append_nil]
theorem gl_len (p : Nat → Bool) (n : Nat) : (gl p n).length = (List.range n).countP p := by
  unfold gl
  rw [List.length_map, List.countP_eq_length_filter]
theorem gl_le (p : Nat → Bool) (n : Nat) : (gl p n).length ≤ n := by
  rw [gl_len]
  exact Nat.le_trans List.countP_le_length (by rw [List.length_range]; exact Nat.le_refl _)
theorem gl_mem (p : Nat → Bool) (n j : Nat) : (j : Int) ∈ gl p n ↔ j < n ∧ p j = true := by
  unfold gl
  rw [List.mem_map]
  constructor
  · rintro ⟨i, h1, h2⟩
    rw [List.mem_filter, List.mem_range] at h1
    obtain rfl : i = j := by omega
    exact h1
  · intro h
    exact ⟨j, by rw [List.mem_filter, List.mem_range]; exact h, rfl⟩
theorem goodI_l (L : List Int) (h : deg L = true) (d : Nat) : ∀ i k : Nat, i + d = L.length → d + 1000 < k → impl_GoodRotations.l0 k L (gl (fun j => fst (rot L j)) i) (L.length : Int) (i : Int) = some (gl (fun j => fst (rot L j)) L.length, true) := by
  obtain ⟨⟨h1, h2⟩, h3⟩ := (deg_iff L).mp h
  induction d with
  | zero =>
    intro i k q1 q2
    obtain ⟨k, rfl⟩ : ∃ m, k = m + 1 := ⟨k - 1, by omega⟩
    obtain rfl : i = L.length := by omega
    simp only [impl_GoodRotations.l0]
    rw [if_neg (rnl _ _ (by omega))]
  | succ d ih =>
    intro i k q1 q2
    obtain ⟨k, rfl⟩ : ∃ m, k = m + 1 := ⟨k - 1, by omega⟩
    have hi : i < L.length := by omega
    have e1 := rw_suc i (by omega)
    have f := ih (i + 1) k (by omega) (by omega)
    rw [gl_succ] at f
    have hg := gl_le (fun j => fst (rot L j)) i
    rw [impl_GoodRotations.l0, if_pos (rl _ _ hi), rotI L (by omega) i (by omega) k (by omega), Option.bind_some, foI (rot L i) (by rw [rot_deg]; exact h) k (by omega), Option.bind_some, e1]
    by_cases c : fst (rot L i) = true
    · rw [if_pos c] at f
      rw [if_pos c, if_pos (by omega)]
      exact f
    · rw [if_neg c] at f
      rw [if_neg c]
      exact f
theorem goodS_l (L : List Int) (h : deg L = true) (d : Nat) : ∀ i k : Nat, i + d = L.length → d + 1000 < k → spec_GoodRotations.l0 k L (gl (fun j => fst (rot L j)) i) (L.length : Int) (i : Int) = some (gl (fun j => fst (rot L j)) L.length, true) := by
  obtain ⟨⟨h1, h2⟩, h3⟩ := (deg_iff L).mp h
  induction d with
  | zero =>
    intro i k q1 q2
    obtain ⟨k, rfl⟩ : ∃ m, k = m + 1 := ⟨k - 1, by omega⟩
    obtain rfl : i = L.length := by omega
    simp only [spec_GoodRotations.l0]
    rw [if_neg (rnl _ _ (by omega))]
  | succ d ih =>
    intro i k q1 q2
    obtain ⟨k, rfl⟩ : ∃ m, k = m + 1 := ⟨k - 1, by omega⟩
    have hi : i < L.length := by omega
    have e1 := rw_suc i (by omega)
    have f := ih (i + 1) k (by omega) (by omega)
    rw [gl_succ] at f
    have hg := gl_le (fun j => fst (rot L j)) i
    rw [spec_GoodRotations.l0, if_pos (rl _ _ hi), rotS L (by omega) i (by omega), Option.bind_some, foS (rot L i) (by rw [rot_deg]; exact h) k (by omega), Option.bind_some, e1]
    by_cases c : fst (rot L i) = true
    · rw [if_pos c] at f
      rw [if_pos c, if_pos (by omega)]
      exact f
    · rw [if_neg c] at f
      rw [if_neg c]
      exact f
def good (L : List Int) : List Int := if deg L = true then gl (fun j => fst (rot L j)) L.length else []
theorem goodI (L : List Int) (k : Nat) (hk : 3000 < k) : impl_GoodRotations.f k L = some (good L, deg L) := by
  unfold impl_GoodRotations.f good
  rw [isDeg_eq L k (by omega), Option.bind_some]
  by_cases h : deg L = true
  · have hl := ((deg_iff L).mp h).1.2
    rw [if_pos h, if_pos h, h]
    exact goodI_l L h L.length 0 k (by omega) (by omega)
  · rw [if_neg h, if_neg h, Bool.eq_false_iff.mpr h]
theorem goodS (L : List Int) (k : Nat) (hk : 3000 < k) : spec_GoodRotations.f k L = some (good L, deg L) := by
  unfold spec_GoodRotations.f good
  rw [cyGood_eq L k (by omega), Option.bind_some]
  by_cases h : deg L = true
  · have hl := ((deg_iff L).mp h).1.2
    rw [if_pos h, if_pos h, h]
    exact goodS_l L h L.length 0 k (by omega) (by omega)
  · rw [if_neg h, if_neg h, Bool.eq_false_iff.mpr h]
def excOf (L : List Int) : Int := if deg L = true then exc L else 0
theorem excOfI (L : List Int) (k : Nat) (hk : 3000 < k) : impl_ExcessOf.f k L = some (excOf L, deg L) := by
  unfold impl_ExcessOf.f excOf
  rw [isDeg_eq L k (by omega), Option.bind_some]
  by_cases h : deg L = true
  · obtain ⟨⟨h1, h2⟩, h3⟩ := (deg_iff L).mp h
    rw [if_pos h, if_pos h, h, excI L h3 (by omega) k (by omega)]; rfl
  · rw [if_neg h, if_neg h, Bool.eq_false_iff.mpr h]
theorem excOfS (L : List Int) (k : Nat) (hk : 3000 < k) : spec_ExcessOf.f k L = some (excOf L, deg L) := by
  unfold spec_ExcessOf.f excOf
  rw [cyGood_eq L k (by omega), Option.bind_some]
  by_cases h : deg L = true
  · obtain ⟨⟨h1, h2⟩, h3⟩ := (deg_iff L).mp h
    rw [if_pos h, if_pos h, h, excS L h3 (by omega) k (by omega)]; rfl
  · rw [if_neg h, if_neg h, Bool.eq_false_iff.mpr h]
theorem isDegS (L : List Int) (k : Nat) (hk : 3000 < k) : spec_IsDegrees.f k L = some (deg L) := by
  unfold spec_IsDegrees.f
  rw [cyGood_eq L k (by omega)]; rfl
/-- Is it a rotation? -/
def rok (L : List Int) (b : Int) : Bool := deg L && (decide (0 ≤ b) && decide (b ≤ (L.length : Int) - 1))
def rotOf (L : List Int) (b : Int) : List Int := if rok L b = true then rot L b.toNat else []
theorem rotOfI (L : List Int) (b : Int) (k : Nat) (hk : 3000 < k) : impl_RotateList.f k L b = some (rotOf L b, rok L b) := by
  unfold impl_RotateList.f rotOf rok
  rw [isDeg_eq L k (by omega), Option.bind_some]
  by_cases h : deg L = true
  · obtain ⟨⟨h1, h2⟩, h3⟩ := (deg_iff L).mp h
    have e1 : wrap64 ((L.length : Int) - 1) = (L.length : Int) - 1 := w64 (by omega) (by omega)
    rw [if_pos h, in_d, e1, Option.bind_some, h, Bool.true_and]
    by_cases c : 0 ≤ b ∧ b ≤ (L.length : Int) - 1
    · have ec : (decide (0 ≤ b) && decide (b ≤ (L.length : Int) - 1)) = true := by rw [decide_eq_true c.1, decide_eq_true c.2]; rfl
      obtain ⟨j, rfl⟩ := Int.eq_ofNat_of_zero_le c.1
      rw [ec, if_pos rfl, if_pos rfl, rotI L (by omega) j (by omega) k (by omega), Int.toNat_natCast]; rfl
    · have ec : (decide (0 ≤ b) && decide (b ≤ (L.length : Int) - 1)) = false := by rw [Bool.and_eq_false_iff, decide_eq_false_iff_not, decide_eq_false_iff_not]; omega
      rw [ec]; rfl
  · rw [if_neg h, Bool.eq_false_iff.mpr h]; rfl
theorem rotOfS (L : List Int) (b : Int) (k : Nat) (hk : 3000 < k) : spec_RotateList.f k L b = some (rotOf L b, rok L b) := by
  unfold spec_RotateList.f rotOf rok
  rw [cyGood_eq L k (by omega), Option.bind_some]
  by_cases h : deg L = true
  · obtain ⟨⟨h1, h2⟩, h3⟩ := (deg_iff L).mp h
    have e1 : wrap64 ((L.length : Int) - 1) = (L.length : Int) - 1 := w64 (by omega) (by omega)
    rw [if_pos h, l1In_d, e1, Option.bind_some, h, Bool.true_and]
    by_cases c : 0 ≤ b ∧ b ≤ (L.length : Int) - 1
    · have ec : (decide (0 ≤ b) && decide (b ≤ (L.length : Int) - 1)) = true := by rw [decide_eq_true c.1, decide_eq_true c.2]; rfl
      obtain ⟨j, rfl⟩ := Int.eq_ofNat_of_zero_le c.1
      rw [ec, if_pos rfl, if_pos rfl, rotS L (by omega) j (by omega), Int.toNat_natCast]; rfl
    · have ec : (decide (0 ≤ b) && decide (b ≤ (L.length : Int) - 1)) = false := by rw [Bool.and_eq_false_iff, decide_eq_false_iff_not, decide_eq_false_iff_not]; omega
      rw [ec]; rfl
  · rw [if_neg h, Bool.eq_false_iff.mpr h]; rfl
theorem isFor (L : List Int) (h : deg L = true) (k : Nat) (hk : 3000 < k) : impl_IsForest.f k L = some (fst L, true) := by
  unfold impl_IsForest.f
  rw [isDeg_eq L k (by omega), Option.bind_some, if_pos h, foI L h k (by omega)]; rfl
/-! ### As many as the excess -/
def P (L : List Int) : Nat → Int
  | 0 => 0
  | i + 1 => P L i + (L.getD (i % L.length) 0 - 1)
theorem rot_get (L : List Int) (k j : Nat) (hk : k ≤ L.length) (hj : j < L.length) : (rot L k).getD j 0 = L.getD ((k + j) % L.length) 0 := by
  unfold rot
  by_cases c : j < L.length - k
  · rw [Nat.mod_eq_of_lt (by omega), List.getD_eq_getElem?_getD, List.getElem?_append_left (by rw [List.length_drop]; exact c), List.getElem?_drop, ← List.getD_eq_getElem?_getD]
  · have e : (k + j) % L.length = j - (L.length - k) := by
      rw [show k + j = (j - (L.length - k)) + L.length by omega, Nat.add_mod_right, Nat.mod_eq_of_lt (by omega)]
    rw [e, List.getD_eq_getElem?_getD, List.getElem?_append_right (by rw [List.length_drop]; omega), List.length_drop, List.getElem?_take_of_lt (by omega), ← List.getD_eq_getElem?_getD]
theorem ps_rot (L : List Int) (k : Nat) (hk : k ≤ L.length) : ∀ j : Nat, j ≤ L.length → ps (rot L k) j = P L (k + j) - P L k
  | 0, _ => by simp [ps]
  | j + 1, h => by
    have ih := ps_rot L k hk j (by omega)
    show ps (rot L k) j + ((rot L k).getD j 0 - 1) = (P L (k + j) + (L.getD ((k + j) % L.length) 0 - 1)) - P L k
    rw [ih, rot_get L k j hk (by omega)]
    omega
theorem ps_take (L : List Int) : ∀ j : Nat, j ≤ L.length → ps L j = (L.take j).sum - (j : Int)
  | 0, _ => by simp [ps]
  | j + 1, h => by
    have ih := ps_take L j (by omega)
    have hj : j < L.length := by omega
    show ps L j + (L.getD j 0 - 1) = _
    rw [ih, List.take_add_one, List.getElem?_eq_getElem hj, List.sum_append, getD_lt L j hj]
    simp
    omega
theorem P_per (L : List Int) : ∀ i : Nat, P L (i + L.length) = P L i - exc L
  | 0 => by
    have h1 := ps_rot L 0 (Nat.zero_le _) L.length (Nat.le_refl _)
    rw [rot_zero, ps_take L L.length (Nat.le_refl _), List.take_length, Nat.zero_add] at h1
    rw [Nat.zero_add]
    unfold exc
    show P L L.length = 0 - _
    have : P L 0 = 0 := rfl
    omega
  | i + 1 => by
    have ih := P_per L i
    show P L (i + 1 + L.length) = P L i + (L.getD (i % L.length) 0 - 1) - exc L
    rw [show i + 1 + L.length = (i + L.length) + 1 by omega]
    show P L (i + L.length) + (L.getD ((i + L.length) % L.length) 0 - 1) = _
    rw [ih, Nat.add_mod_right]
    omega
theorem fst_iff (L : List Int) (h : deg L = true) (k : Nat) (hk : k ≤ L.length) : fst (rot L k) = true ↔ ∀ j, j < L.length → P L (k + L.length) < P L (k + j) := by
  obtain ⟨⟨h1, h2⟩, h3⟩ := (deg_iff L).mp h
  unfold fst
  rw [Bool.and_eq_true, List.all_eq_true, rot_exc, rot_len, decide_eq_true_eq]
  have hp := P_per L k
  constructor
  · rintro ⟨a, b⟩ j hj
    by_cases e : j = 0
    · subst e; rw [Nat.add_zero]; omega
    · have := b (j - 1) (by rw [List.mem_range]; omega)
      unfold ok1 at this
      rw [decide_eq_true_eq, rot_exc, show j - 1 + 1 = j by omega, ps_rot L k hk j (by omega)] at this
      omega
  · intro hh
    refine ⟨?_, fun j hj => ?_⟩
    · have := hh 0 (by omega)
      rw [Nat.add_zero] at this
      omega
    · rw [List.mem_range] at hj
      have := hh (j + 1) (by omega)
      unfold ok1
      rw [decide_eq_true_eq, rot_exc, ps_rot L k hk (j + 1) (by omega)]
      omega
theorem P_step (L : List Int) (h : deg L = true) (i : Nat) : P L i - 1 ≤ P L (i + 1) := by
  obtain ⟨⟨h1, h2⟩, h3⟩ := (deg_iff L).mp h
  have := deg_get L h3 (i % L.length) (Nat.mod_lt _ (by omega))
  show P L i - 1 ≤ P L i + (L.getD (i % L.length) 0 - 1)
  omega
theorem count_good (L : List Int) (h : deg L = true) : ((good L).length : Int) = if exc L < 0 then 0 else exc L := by
  obtain ⟨⟨h1, h2⟩, h3⟩ := (deg_iff L).mp h
  unfold good
  rw [if_pos h, gl_len]
  by_cases hr : 1 ≤ exc L
  · have := cyc_down (P L) L.length (by omega) (exc L) hr (P_per L) (P_step L h) (fun a => decide (∀ j, j < L.length → P L (a + L.length) < P L (a + j))) (fun a => by rw [decide_eq_true_eq])
    rw [if_neg (by omega), ← this]
    congr 1
    refine List.countP_congr fun k hk => ?_
    rw [List.mem_range] at hk
    rw [fst_iff L h k (by omega), decide_eq_true_eq]
  · have hz : (List.range L.length).countP (fun j => fst (rot L j)) = 0 := by
      rw [List.countP_eq_zero]
      intro k hk
      rw [List.mem_range] at hk
      rw [fst_iff L h k (by omega)]
      intro hh
      have a := hh 0 (by omega)
      have b := P_per L k
      rw [Nat.add_zero] at a
      omega
    rw [hz]
    split <;> omega

/-! ### Rotations of paths -/
def J (s : ByteArray) (i : Nat) : ByteArray := s.extract i s.size ++ s.extract 0 i
theorem J_list (s : ByteArray) (i : Nat) : (J s i).data.toList = s.data.toList.drop i ++ s.data.toList.take i := by
  unfold J
  rw [ByteArray.data_append, Array.toList_append, ByteArray.data_extract, ByteArray.data_extract, Array.toList_extract, Array.toList_extract, List.extract_eq_take_drop, List.extract_eq_take_drop, List.drop_zero, Nat.sub_zero]
  congr 1
  exact List.take_of_length_le (by rw [List.length_drop]; simp)
theorem J_size (s : ByteArray) (i : Nat) (hi : i ≤ s.size) : (J s i).size = s.size := by
  unfold J
  rw [ByteArray.size_append, ByteArray.size_extract, ByteArray.size_extract]
  omega
theorem bt_get (s : ByteArray) (i : Nat) (hi : i < s.size) : bt s (i : Int) = (((s.data.toList[i]?).getD 0).toNat : Int) := by
  have h : i < s.data.toList.length := by simpa using hi
  rw [bt_list s i h, List.getElem?_eq_getElem h]; rfl
theorem J_bt (s : ByteArray) (i j : Nat) (hi : i ≤ s.size) (hj : j < s.size) : bt (J s i) (j : Int) = bt s (((i + j) % s.size : Nat) : Int) := by
  have hl : s.data.toList.length = s.size := by simp
  rw [bt_get _ _ (by rw [J_size s i hi]; exact hj), bt_get _ _ (Nat.mod_lt _ (by omega)), J_list]
  by_cases c : j < s.size - i
  · rw [Nat.mod_eq_of_lt (by omega), List.getElem?_append_left (by rw [List.length_drop, hl]; exact c), List.getElem?_drop]
  · have e : (i + j) % s.size = j - (s.size - i) := by
      rw [show i + j = (j - (s.size - i)) + s.size by omega, Nat.add_mod_right, Nat.mod_eq_of_lt (by omega)]
    rw [e, List.getElem?_append_right (by rw [List.length_drop, hl]; omega), List.length_drop, hl, List.getElem?_take_of_lt (by omega)]
def okP (s : ByteArray) : Prop := ∀ i : Nat, i < s.size → bt s (i : Int) = 85 ∨ bt s (i : Int) = 68
theorem okP_J (s : ByteArray) (h : okP s) (i : Nat) (hi : i ≤ s.size) : okP (J s i) := by
  intro j hj
  rw [J_size s i hi] at hj
  rw [J_bt s i j hi hj]
  exact h _ (Nat.mod_lt _ (by omega))
def st (c b : Int) : Int := if b = 68 then -c else 1
def ld (s : ByteArray) (c : Int) : Nat → Int
  | 0 => 0
  | j + 1 => ld s c j + st c (bt s (j : Int))
theorem st_b (c b : Int) (hc : 0 ≤ c ∧ c ≤ 40) : -40 ≤ st c b ∧ st c b ≤ 1 := by unfold st; split <;> omega
theorem ld_b (s : ByteArray) (c : Int) (hc : 0 ≤ c ∧ c ≤ 40) : ∀ j : Nat, -(40 * (j : Int)) ≤ ld s c j ∧ ld s c j ≤ 40 * (j : Int)
  | 0 => by simp [ld]
  | j + 1 => by
    have ih := ld_b s c hc j
    have := st_b c (bt s (j : Int)) hc
    unfold ld
    omega
def lds (s : ByteArray) (c : Int) (n : Nat) : List Int := (List.range n).map (ld s c)
theorem lds_len (s : ByteArray) (c : Int) (n : Nat) : (lds s c n).length = n := by simp [lds]
theorem lds_suc (s : ByteArray) (c : Int) (n : Nat) : lds s c (n + 1) = lds s c n ++ [ld s c n] := by unfold lds; rw [List.range_succ, List.map_append]; rfl
theorem lds_rd (s : ByteArray) (c : Int) (n i : Nat) (h : i < n) : rd (lds s c n) (i : Int) = ld s c i := by
  rw [rdg, List.getD_eq_getElem?_getD]
  unfold lds
  rw [List.getElem?_map, List.getElem?_range h]; rfl
theorem ld_w1 (x : Int) (h : -10000 ≤ x ∧ x ≤ 10000) : wrap64 (x + 1) = x + 1 := w64 (by omega) (by omega)
theorem ld_w2 (x c : Int) (h : -10000 ≤ x ∧ x ≤ 10000) (hc : 0 ≤ c ∧ c ≤ 40) : wrap64 (x + wrap64 (-c)) = x + -c ∧ wrap64 (x - c) = x + -c := by
  rw [w64 (x := -c) (by omega) (by omega), w64 (by omega) (by omega), w64 (by omega) (by omega)]
  exact ⟨rfl, by omega⟩
theorem leads_l (s : ByteArray) (hs : s.size ≤ 100) (c : Int) (hc : 0 ≤ c ∧ c ≤ 40) (d : Nat) : ∀ i k : Nat, i + d = s.size → d < k → impl_leads.l0 k s c (lds s c (i + 1)) (s.size : Int) (i : Int) = some (lds s c (s.size + 1)) := by
  induction d with
  | zero =>
    intro i k h1 h2
    obtain ⟨k, rfl⟩ : ∃ m, k = m + 1 := ⟨k - 1, by omega⟩
    obtain rfl : i = s.size := by omega
    simp only [impl_leads.l0]
    rw [if_neg (rnl _ _ (by omega))]
  | succ d ih =>
    intro i k h1 h2
    obtain ⟨k, rfl⟩ : ∃ m, k = m + 1 := ⟨k - 1, by omega⟩
    have hi : i < s.size := by omega
    have e1 := rw_suc i (by omega)
    have hb := ld_b s c hc i
    have hb2 : -10000 ≤ ld s c i ∧ ld s c i ≤ 10000 := by omega
    have f := ih (i + 1) k (by omega) (by omega)
    rw [lds_suc] at f
    have el : ld s c (i + 1) = ld s c i + st c (bt s (i : Int)) := rfl
    rw [impl_leads.l0, if_pos (rl _ _ hi), if_pos (Int.natCast_nonneg i), if_pos (rl _ _ hi), lds_rd s c (i + 1) i (by omega), e1, (ld_w2 _ c hb2 hc).1, ld_w1 _ hb2, lds_len]
    unfold st at el
    by_cases hd : bt s (i : Int) = 68
    · rw [if_pos hd, if_pos (rl _ _ (by omega)), if_pos (by omega)]
      rw [if_pos hd] at el
      rw [← el]
      exact f
    · rw [if_neg hd, if_pos (rl _ _ (by omega)), if_pos (by omega)]
      rw [if_neg hd] at el
      rw [← el]
      exact f
theorem leads_eq (s : ByteArray) (hs : s.size ≤ 100) (c : Int) (hc : 0 ≤ c ∧ c ≤ 40) (k : Nat) (hk : 200 < k) : impl_leads.f k s c = some (lds s c (s.size + 1)) := by
  have := leads_l s hs c hc s.size 0 k (by omega) (by omega)
  exact this
/-- Are all sums above zero? -/
def up0 (s : ByteArray) (c : Int) (j : Nat) : Bool := decide (0 < ld s c (j + 1))
def upw (s : ByteArray) (c : Int) : Bool := (List.range s.size).all (up0 s c)
theorem first_l (s : ByteArray) (hs : s.size ≤ 100) (c : Int) (d : Nat) : ∀ i k : Nat, 1 ≤ i → i + d = s.size + 1 → d < k → ∃ r, impl_first.l0 k impl_isLevel.f 1 (lds s c (s.size + 1)) ((lds s c (s.size + 1)).length : Int) (i : Int) = some (r, !(List.range' (i - 1) d).all (up0 s c)) := by
  have hlen := lds_len s c (s.size + 1)
  induction d with
  | zero =>
    intro i k h0 h1 h2
    obtain ⟨k, rfl⟩ : ∃ m, k = m + 1 := ⟨k - 1, by omega⟩
    refine ⟨0, ?_⟩
    simp only [impl_first.l0]
    rw [hlen, if_neg (rnl _ _ (by omega))]; rfl
  | succ d ih =>
    intro i k h0 h1 h2
    obtain ⟨k, rfl⟩ : ∃ m, k = m + 1 := ⟨k - 1, by omega⟩
    have hi : i < s.size + 1 := by omega
    have e1 := rw_suc i (by omega)
    obtain ⟨r, f⟩ := ih (i + 1) k (by omega) (by omega) (by omega)
    have eu : up0 s c (i - 1) = decide (0 < ld s c i) := by unfold up0; rw [show i - 1 + 1 = i by omega]
    rw [impl_first.l0, hlen, if_pos (rl _ _ hi), if_pos (Int.natCast_nonneg i), if_pos (rl _ _ hi), if_pos (by omega), lds_rd s c _ i hi, e1, List.range'_succ, List.all_cons, eu]
    have ef : impl_isLevel.f (ld s c i) = decide (ld s c i ≤ 0) := rfl
    rw [ef]
    rw [hlen] at f
    by_cases h : ld s c i ≤ 0
    · rw [if_pos (decide_eq_true h), decide_eq_false (by omega)]
      exact ⟨(i : Int), rfl⟩
    · rw [if_neg (by rw [decide_eq_false h]; exact Bool.false_ne_true), decide_eq_true (by omega), Bool.true_and]
      rw [show i + 1 - 1 = i - 1 + 1 by omega] at f
      exact ⟨r, f⟩
theorem first_eq (s : ByteArray) (hs : s.size ≤ 100) (c : Int) (hc : 0 ≤ c ∧ c ≤ 40) (k : Nat) (hk : 300 < k) : ∃ r, impl_first.f k s c 1 impl_isLevel.o = some (r, !upw s c) := by
  obtain ⟨k, rfl⟩ : ∃ m, k = m + 1 := ⟨k - 1, by omega⟩
  obtain ⟨r, h⟩ := first_l s hs c s.size 1 k (by omega) (by omega) (by omega)
  refine ⟨r, ?_⟩
  unfold impl_first.f
  rw [leads_eq s hs c hc _ (by omega), Option.bind_some]
  have hlen := lds_len s c (s.size + 1)
  show impl_first.l0 (k + 1) impl_isLevel.f 1 (lds s c (s.size + 1)) ((lds s c (s.size + 1)).length : Int) 0 = _
  rw [impl_first.l0, hlen, if_pos (by omega), if_pos (by omega), if_pos (by omega), if_neg (by omega), show wrap64 (0 + 1) = ((1 : Nat) : Int) by rw [w64 (by omega) (by omega)]; rfl]
  rw [hlen] at h
  rw [h]
  unfold upw
  rw [List.range_eq_range']
/-- The starts of good rotations. -/
def starts (s : ByteArray) (c : Int) : List Int := gl (fun i => upw (J s i) c) s.size
def rrok (s : ByteArray) (c : Int) : Bool := (decide (s.size ≤ 40) && isP s) && (decide (0 ≤ c) && decide (c ≤ 40))
theorem okP_of (s : ByteArray) (h : isP s = true) : okP s := fun i hi => (all_of_bt s).mp h i hi
theorem rrI_l (s : ByteArray) (hs : s.size ≤ 40) (c : Int) (hc : 0 ≤ c ∧ c ≤ 40) (d : Nat) : ∀ i k : Nat, i + d = s.size → d + 400 < k → impl_RatioRotations.l0 k s c (gl (fun i => upw (J s i) c) i) (s.size : Int) (i : Int) = some (starts s c, true) := by
  induction d with
  | zero =>
    intro i k h1 h2
    obtain ⟨k, rfl⟩ : ∃ m, k = m + 1 := ⟨k - 1, by omega⟩
    obtain rfl : i = s.size := by omega
    simp only [impl_RatioRotations.l0]
    rw [if_neg (rnl _ _ (by omega))]; rfl
  | succ d ih =>
    intro i k h1 h2
    obtain ⟨k, rfl⟩ : ∃ m, k = m + 1 := ⟨k - 1, by omega⟩
    have hi : i < s.size := by omega
    have e1 := rw_suc i (by omega)
    have f := ih (i + 1) k (by omega) (by omega)
    rw [gl_succ] at f
    have hg := gl_le (fun i => upw (J s i) c) i
    have hJ := J_size s i (by omega)
    obtain ⟨r, hr⟩ := first_eq (J s i) (by omega) c hc k (by omega)
    have hJ2 : (s.extract i s.size).size + (s.extract 0 i).size ≤ 9223372036854775807 := by rw [ByteArray.size_extract, ByteArray.size_extract]; omega
    have hr2 : impl_first.f k (s.extract i s.size ++ s.extract 0 i) c 1 impl_isLevel.o = some (r, !upw (J s i) c) := hr
    rw [impl_RatioRotations.l0, if_pos (rl _ _ hi), if_pos (Int.natCast_nonneg i), if_pos (by omega), Int.toNat_natCast, if_pos hJ2, hr2, Option.bind_some, e1]
    show (if (!upw (J s i) c) = true then _ else _) = _
    by_cases u : upw (J s i) c = true
    · rw [if_pos u] at f
      rw [u, if_neg (by decide), if_pos (by omega)]
      exact f
    · rw [if_neg u] at f
      rw [Bool.eq_false_iff.mpr u, if_pos (show (!false) = true from rfl)]
      exact f
theorem rrI (s : ByteArray) (hs : s.size ≤ 140737488351232) (c : Int) (k : Nat) (hk : 1000 < k) : impl_RatioRotations.f k s c = some (if rrok s c = true then starts s c else [], rrok s c) := by
  unfold impl_RatioRotations.f rrok
  rw [isPath_eq s hs, Option.bind_some]
  obtain ⟨k, rfl⟩ : ∃ m, k = m + 1 := ⟨k - 1, by omega⟩
  by_cases h : (decide (s.size ≤ 40) && isP s) = true
  · rw [if_pos h, in_d, Option.bind_some, h, Bool.true_and]
    have h4 : s.size ≤ 40 ∧ isP s = true := by simpa using h
    by_cases hc : (decide (0 ≤ c) && decide (c ≤ 40)) = true
    · have hc2 : 0 ≤ c ∧ c ≤ 40 := by simpa using hc
      rw [hc, impl_RatioRotations.j0, if_neg (by decide), if_pos rfl]
      exact rrI_l s h4.1 c hc2 s.size 0 k (by omega) (by omega)
    · rw [Bool.eq_false_iff.mpr hc, impl_RatioRotations.j0, if_pos (show (!false) = true from rfl)]; rfl
  · rw [if_neg h, impl_RatioRotations.j0, if_pos rfl, Bool.eq_false_iff.mpr h]; rfl
theorem dec_one (s : ByteArray) (h : okP s) (j : Nat) (hj : j < s.size) : (((Utf8.decode s j).1 : Nat) : Int) = bt s (j : Int) ∧ (Utf8.decode s j).2 = 1 := by
  have e : bt s (j : Int) = ((s[j]'hj).toNat : Int) := by
    unfold bt
    rw [dif_pos (by simpa using hj)]
    simp only [Int.toNat_natCast]
  have h1 := h j hj
  have := decode_ascii s j hj (by rw [e] at h1; omega)
  rw [this, e]
  exact ⟨rfl, rfl⟩
theorem all_snoc (p : Nat → Bool) (j : Nat) : (List.range (j + 1)).all p = ((List.range j).all p && p j) := by rw [List.range_succ, List.all_append]; simp
theorem rrS_l1 (s t : ByteArray) (ht : okP t) (hs : t.size ≤ 40) (c : Int) (hc : 0 ≤ c ∧ c ≤ 40) (x6 : List Int) (x7 : Int) (x20 : ByteArray) (x21 : Int) (R : List Int × Bool) (B : Nat)
    (hR : ∀ k, B ≤ k → (if upw t c = true then (if x6.length < 17592186044416 then spec_RatioRotations.l0 k s c (x6 ++ [x7]) x20 x21 else none) else spec_RatioRotations.l0 k s c x6 x20 x21) = some R) (d : Nat) :
    ∀ j k : Nat, j + d = t.size → B + d < k → spec_RatioRotations.l1 k s c x6 x7 (ld t c j) ((List.range j).all (up0 t c)) x20 x21 t (j : Int) = some R := by
  induction d with
  | zero =>
    intro j k h1 h2
    obtain ⟨k, rfl⟩ : ∃ m, k = m + 1 := ⟨k - 1, by omega⟩
    obtain rfl : j = t.size := by omega
    rw [spec_RatioRotations.l1, if_neg (rnl _ _ (by omega))]
    exact hR k (by omega)
  | succ d ih =>
    intro j k h1 h2
    obtain ⟨k, rfl⟩ : ∃ m, k = m + 1 := ⟨k - 1, by omega⟩
    have hj : j < t.size := by omega
    obtain ⟨d1, d2⟩ := dec_one t ht j hj
    have f := ih (j + 1) k (by omega) (by omega)
    rw [all_snoc] at f
    have hb := ld_b t c hc j
    have hb2 : -10000 ≤ ld t c j ∧ ld t c j ≤ 10000 := by omega
    have el : ld t c (j + 1) = ld t c j + st c (bt t (j : Int)) := rfl
    have eu : up0 t c j = decide (ld t c (j + 1) > 0) := rfl
    have ej : (j : Int) + ((1 : Nat) : Int) = ((j + 1 : Nat) : Int) := by omega
    unfold st at el
    rw [spec_RatioRotations.l1, if_pos (rl _ _ hj), if_pos (Int.natCast_nonneg j), Int.toNat_natCast, d1, d2, ej, ld_w1 _ hb2, (ld_w2 _ c hb2 hc).2]
    by_cases hU : bt t (j : Int) = 85
    · rw [if_neg (by rw [hU]; decide)] at el
      rw [if_pos hU, ← el, ← eu]
      by_cases g : (List.range j).all (up0 t c) = true
      · rw [if_pos g]; rw [g, Bool.true_and] at f; exact f
      · rw [if_neg g]; rw [Bool.eq_false_iff.mpr g, Bool.false_and] at f; exact f
    · have hD : bt t (j : Int) = 68 := (ht j hj).resolve_left hU
      rw [if_pos hD] at el
      rw [if_neg hU, ← el, ← eu]
      by_cases g : (List.range j).all (up0 t c) = true
      · rw [if_pos g]; rw [g, Bool.true_and] at f; exact f
      · rw [if_neg g]; rw [Bool.eq_false_iff.mpr g, Bool.false_and] at f; exact f
theorem rrS_l (s : ByteArray) (hp : okP s) (hs : s.size ≤ 40) (c : Int) (hc : 0 ≤ c ∧ c ≤ 40) (d : Nat) : ∀ i k : Nat, i + d = s.size → d * 100 + 10 ≤ k → spec_RatioRotations.l0 k s c (gl (fun i => upw (J s i) c) i) s (i : Int) = some (starts s c, true) := by
  induction d with
  | zero =>
    intro i k h1 h2
    obtain ⟨k, rfl⟩ : ∃ m, k = m + 1 := ⟨k - 1, by omega⟩
    obtain rfl : i = s.size := by omega
    simp only [spec_RatioRotations.l0]
    rw [if_neg (rnl _ _ (by omega))]; rfl
  | succ d ih =>
    intro i k h1 h2
    obtain ⟨k, rfl⟩ : ∃ m, k = m + 1 := ⟨k - 1, by omega⟩
    have hi : i < s.size := by omega
    have hg := gl_le (fun i => upw (J s i) c) i
    have hJ := J_size s i (by omega)
    have hJ2 : (s.extract i s.size).size + (s.extract 0 i).size ≤ 9223372036854775807 := by rw [ByteArray.size_extract, ByteArray.size_extract]; omega
    have ej : (i : Int) + ((1 : Nat) : Int) = ((i + 1 : Nat) : Int) := by omega
    rw [spec_RatioRotations.l0, if_pos (rl _ _ hi), if_pos (Int.natCast_nonneg i), if_pos (by omega), Int.toNat_natCast, if_pos hJ2, (dec_one s hp i hi).2, ej]
    have := rrS_l1 s (J s i) (okP_J s hp i (by omega)) (by omega) c hc (gl (fun i => upw (J s i) c) i) (i : Int) s ((i + 1 : Nat) : Int) (starts s c, true) (d * 100 + 10) (fun k hk => by
      have f := ih (i + 1) k (by omega) hk
      rw [gl_succ] at f
      by_cases u : upw (J s i) c = true
      · rw [if_pos u] at f
        rw [if_pos u, if_pos (by omega)]
        exact f
      · rw [if_neg u] at f
        rw [if_neg u]
        exact f) s.size 0 k (by omega) (by omega)
    exact this
theorem rrS (s : ByteArray) (c : Int) (k : Nat) (hk : 5000 < k) : spec_RatioRotations.f k s c = some (if rrok s c = true then starts s c else [], rrok s c) := by
  unfold spec_RatioRotations.f rrok
  rw [paGood_eq s k (by omega), Option.bind_some]
  obtain ⟨k, rfl⟩ : ∃ m, k = m + 1 := ⟨k - 1, by omega⟩
  by_cases h : (decide (s.size ≤ 40) && isP s) = true
  · rw [if_pos h, l1In_d, Option.bind_some, h, Bool.true_and]
    have h4 : s.size ≤ 40 ∧ isP s = true := by simpa using h
    by_cases hc : (decide (0 ≤ c) && decide (c ≤ 40)) = true
    · have hc2 : 0 ≤ c ∧ c ≤ 40 := by simpa using hc
      rw [hc, spec_RatioRotations.j0, if_neg (by decide), if_pos rfl]
      exact rrS_l s (okP_of s h4.2) h4.1 c hc2 s.size 0 k (by omega) (by omega)
    · rw [Bool.eq_false_iff.mpr hc, spec_RatioRotations.j0, if_pos (show (!false) = true from rfl)]; rfl
  · rw [if_neg h, spec_RatioRotations.j0, if_pos rfl, Bool.eq_false_iff.mpr h]; rfl

/-! ### As many starts as the ratio leaves -/
def SS (s : ByteArray) (c : Int) : Nat → Int
  | 0 => 0
  | i + 1 => SS s c i + st c (bt s ((i % s.size : Nat) : Int))
theorem ld_J (s : ByteArray) (c : Int) (i : Nat) (hi : i ≤ s.size) : ∀ j : Nat, j ≤ s.size → ld (J s i) c j = SS s c (i + j) - SS s c i
  | 0, _ => by simp [ld]
  | j + 1, h => by
    have ih := ld_J s c i hi j (by omega)
    show ld (J s i) c j + st c (bt (J s i) (j : Int)) = (SS s c (i + j) + st c (bt s (((i + j) % s.size : Nat) : Int))) - SS s c i
    rw [ih, J_bt s i j hi (by omega)]
    omega
theorem SS_ld (s : ByteArray) (c : Int) : ∀ j : Nat, j ≤ s.size → SS s c j = ld s c j
  | 0, _ => rfl
  | j + 1, h => by
    show SS s c j + st c (bt s ((j % s.size : Nat) : Int)) = ld s c j + st c (bt s (j : Int))
    rw [SS_ld s c j (by omega), Nat.mod_eq_of_lt (by omega)]
theorem SS_per (s : ByteArray) (c : Int) : ∀ i : Nat, SS s c (i + s.size) = SS s c i + ld s c s.size
  | 0 => by
    rw [Nat.zero_add, SS_ld s c s.size (Nat.le_refl _)]
    show _ = 0 + _
    omega
  | i + 1 => by
    have ih := SS_per s c i
    rw [show i + 1 + s.size = (i + s.size) + 1 by omega]
    show SS s c (i + s.size) + st c (bt s (((i + s.size) % s.size : Nat) : Int)) = (SS s c i + st c (bt s ((i % s.size : Nat) : Int))) + _
    rw [ih, Nat.add_mod_right]
    omega
theorem upw_iff (s : ByteArray) (c : Int) (i : Nat) (hi : i ≤ s.size) : upw (J s i) c = true ↔ ∀ j, 1 ≤ j → j ≤ s.size → SS s c i < SS s c (i + j) := by
  unfold upw
  rw [List.all_eq_true, J_size s i hi]
  constructor
  · intro h j h1 h2
    have := h (j - 1) (by rw [List.mem_range]; omega)
    unfold up0 at this
    rw [decide_eq_true_eq, show j - 1 + 1 = j by omega, ld_J s c i hi j h2] at this
    omega
  · intro h j hj
    rw [List.mem_range] at hj
    have := h (j + 1) (by omega) (by omega)
    unfold up0
    rw [decide_eq_true_eq, ld_J s c i hi (j + 1) (by omega)]
    omega
theorem count_starts (s : ByteArray) (c : Int) (hc : 0 ≤ c ∧ c ≤ 40) : ((starts s c).length : Int) = if ld s c s.size < 0 then 0 else ld s c s.size := by
  unfold starts
  rw [gl_len]
  by_cases hn : s.size = 0
  · rw [hn]; rfl
  · by_cases hr : 1 ≤ ld s c s.size
    · have hs : ∀ i, SS s c (i + 1) ≤ SS s c i + 1 := fun i => by
        have := st_b c (bt s ((i % s.size : Nat) : Int)) hc
        show SS s c i + st c (bt s ((i % s.size : Nat) : Int)) ≤ _
        omega
      have := cyc_up (SS s c) s.size (by omega) (ld s c s.size) hr (SS_per s c) hs (fun a => decide (∀ j, j < s.size → SS s c a < SS s c (a + (j + 1)))) (fun a => by
        rw [decide_eq_true_eq]
        exact ⟨fun h j h1 h2 => by have := h (j - 1) (by omega); rwa [show j - 1 + 1 = j by omega] at this, fun h j hj => h (j + 1) (by omega) (by omega)⟩)
      rw [if_neg (by omega), ← this]
      congr 1
      refine List.countP_congr fun k hk => ?_
      rw [List.mem_range] at hk
      rw [upw_iff s c k (by omega), decide_eq_true_eq]
      exact ⟨fun h j hj => h (j + 1) (by omega) (by omega), fun h j h1 h2 => by have := h (j - 1) (by omega); rwa [show j - 1 + 1 = j by omega] at this⟩
    · have hz : (List.range s.size).countP (fun i => upw (J s i) c) = 0 := by
        rw [List.countP_eq_zero]
        intro k hk
        rw [List.mem_range] at hk
        rw [upw_iff s c k (by omega)]
        intro hh
        have a := hh s.size (by omega) (Nat.le_refl _)
        have b := SS_per s c k
        omega
      rw [hz]
      split <;> omega
/-- How many of the first i bytes are b. -/
def cnt (s : ByteArray) (b : Int) : Nat → Int
  | 0 => 0
  | i + 1 => cnt s b i + (if bt s (i : Int) = b then 1 else 0)
theorem cnt_b (s : ByteArray) (b : Int) : ∀ i : Nat, 0 ≤ cnt s b i ∧ cnt s b i ≤ i
  | 0 => by simp [cnt]
  | i + 1 => by have := cnt_b s b i; unfold cnt; split <;> omega
theorem cnt_w (x : Int) (i : Nat) (h : 0 ≤ x ∧ x ≤ i) (hi : i ≤ 1000) : wrap64 (x + 1) = x + 1 := w64 (by omega) (by omega)
theorem xCount_l (s : ByteArray) (hs : s.size ≤ 100) (b : Int) (d : Nat) : ∀ i k : Nat, i + d = s.size → d < k → laws_xCount.l0 k s b (cnt s b i) (i : Int) = some (cnt s b s.size) := by
  induction d with
  | zero =>
    intro i k h1 h2
    obtain ⟨k, rfl⟩ : ∃ m, k = m + 1 := ⟨k - 1, by omega⟩
    obtain rfl : i = s.size := by omega
    rw [laws_xCount.l0, if_neg (rnl _ _ (by omega))]
  | succ d ih =>
    intro i k h1 h2
    obtain ⟨k, rfl⟩ : ∃ m, k = m + 1 := ⟨k - 1, by omega⟩
    have hi : i < s.size := by omega
    have e1 := rw_suc i (by omega)
    have f := ih (i + 1) k (by omega) (by omega)
    have hc := cnt_w _ i (cnt_b s b i) (by omega)
    have el : cnt s b (i + 1) = cnt s b i + (if bt s (i : Int) = b then 1 else 0) := rfl
    rw [laws_xCount.l0, if_pos (rl _ _ hi), if_pos (Int.natCast_nonneg i), e1, hc]
    by_cases h : bt s (i : Int) = b
    · rw [if_pos h] at el
      rw [if_pos h, ← el]; exact f
    · rw [if_neg h, Int.add_zero] at el
      rw [if_neg h, ← el]; exact f
theorem xCount_eq (s : ByteArray) (hs : s.size ≤ 100) (b : Int) (k : Nat) (hk : 200 < k) : laws_xCount.f k s b = some (cnt s b s.size) := xCount_l s hs b s.size 0 k (by omega) (by omega)
theorem ld_cnt (s : ByteArray) (h : okP s) (c : Int) : ∀ i : Nat, i ≤ s.size → ld s c i = cnt s 85 i - c * cnt s 68 i
  | 0, _ => by simp [ld, cnt]
  | i + 1, hi => by
    have ih := ld_cnt s h c i (by omega)
    show ld s c i + st c (bt s (i : Int)) = (cnt s 85 i + (if bt s (i : Int) = 85 then 1 else 0)) - c * (cnt s 68 i + (if bt s (i : Int) = 68 then 1 else 0))
    rw [ih]
    unfold st
    rcases h i (by omega) with e | e
    · rw [e, if_neg (by decide), if_pos rfl, if_neg (by decide), Int.add_zero]; omega
    · rw [e, if_pos rfl, if_neg (by decide), if_pos rfl, Int.mul_add, Int.mul_one]; omega
theorem many_w (a c d : Int) (ha : 0 ≤ a ∧ a ≤ 40) (hc : 0 ≤ c ∧ c ≤ 40) (hd : 0 ≤ d ∧ d ≤ 40) : wrap64 (a - wrap64 (c * d)) = a - c * d := by
  have h1 : 0 ≤ c * d := Int.mul_nonneg hc.1 hd.1
  have h2 : c * d ≤ 40 * 40 := Int.mul_le_mul hc.2 hd.2 hd.1 (by decide)
  generalize c * d = e at h1 h2 ⊢
  rw [w64 (x := e) (by omega) (by omega), w64 (by omega) (by omega)]
/-! ### The starts' list -/
theorem gl_get (p : Nat → Bool) (n t : Nat) (h : t < (gl p n).length) : ∃ j : Nat, (gl p n).getD t 0 = (j : Int) ∧ j < n ∧ p j = true := by
  rw [getD_lt _ t h]
  have hm := List.getElem_mem h
  unfold gl at hm
  rw [List.mem_map] at hm
  obtain ⟨j, h1, h2⟩ := hm
  rw [List.mem_filter, List.mem_range] at h1
  exact ⟨j, h2.symm, h1.1, h1.2⟩
theorem gl_inc (p : Nat → Bool) (n t u : Nat) (htu : t < u) (h : u < (gl p n).length) : (gl p n).getD t 0 < (gl p n).getD u 0 := by
  have hp : (gl p n).Pairwise (· < ·) := by
    unfold gl
    rw [List.pairwise_map]
    exact (List.Pairwise.filter p (List.pairwise_lt_range (n := n))).imp fun h => by omega
  rw [getD_lt _ t (by omega), getD_lt _ u h]
  exact List.pairwise_iff_getElem.mp hp t u (by omega) h htu
theorem start_at (s : ByteArray) (h : okP s) (c : Int) (hc : 0 ≤ c ∧ c ≤ 40) (j : Nat) (hj : j < s.size) (hu : upw (J s j) c = true) : bt s (j : Int) = 85 := by
  have h1 := (upw_iff s c j (by omega)).mp hu 1 (Nat.le_refl _) (by omega)
  have e : SS s c (j + 1) = SS s c j + st c (bt s ((j % s.size : Nat) : Int)) := rfl
  rw [Nat.mod_eq_of_lt hj] at e
  rcases h j hj with e2 | e2
  · exact e2
  · unfold st at e
    rw [if_pos e2] at e
    omega

/-! ### The draws tell something, whatever the code -/
def TotS {α : Type} (F : Int → Int → Option (α × Int × Int)) (c : Int) (p : α → Prop) : Prop := ∀ s1 s2 : Int, 0 ≤ s1 → s1 ≤ 1000000 → ∃ r t1 t2, F s1 s2 = some (r, t1, t2) ∧ p r ∧ s1 ≤ t1 ∧ t1 ≤ s1 + c
theorem u64_b (y : Int) : 0 ≤ IntKind.u64.wrap y ∧ IntKind.u64.wrap y < 18446744073709551616 := by
  simp [IntKind.wrap, IntKind.bits, IntKind.signed]
  omega
theorem byte_b (y : Int) (h : 0 ≤ y ∧ y < 18446744073709551616) : 0 ≤ wrap64 (bits .and .u64 (y / 1099511627776) 255) ∧ wrap64 (bits .and .u64 (y / 1099511627776) 255) ≤ 255 := by
  have e : bits .and .u64 (y / 1099511627776) 255 = (y / 1099511627776) % 256 := bits_mask .u64 24 (by decide) (fun n a b => by
    simp [IntKind.wrap, IntKind.bits, IntKind.signed]
    omega) 8 (by decide) _ (by omega) (by omega)
  rw [e, w64 (by omega) (by omega)]
  omega
theorem pre_w (n : Nat) (h : n ≤ 9) : wrap64 (((n + 1 : Nat) : Int) - 1) = (n : Int) := by rw [w64 (by omega) (by omega)]; omega
theorem suc_w (i : Nat) (h : i ≤ 1000) : wrap64 ((i : Int) + 1) = ((i + 1 : Nat) : Int) := by rw [w64 (by omega) (by omega)]; omega
theorem pl_w (r : Int) (h0 : 0 ≤ r) (h1 : r < 2) : wrap64 (40 + r) = 40 + r := w64 (by omega) (by omega)
theorem size5 : ((⟨#[85, 68, 88, 32, 117]⟩ : ByteArray).size : Int) = 5 := rfl
section
variable (l : List Int) (hl : ∀ x ∈ l, 0 ≤ x ∧ x ≤ 255)
include hl
theorem next_tot : TotS (fun s1 s2 => spec_l1Cur_next.f l s1 s2) 1 (fun r => 0 ≤ r ∧ r ≤ 255) := by
  intro s1 s2 h0 h1
  have e1 : wrap64 (s1 + 1) = s1 + 1 := w64 (by omega) (by omega)
  unfold spec_l1Cur_next.f
  simp only [e1]
  by_cases c : s1 < (l.length : Int)
  · rw [if_pos c, if_pos h0]
    obtain ⟨i, rfl⟩ := Int.eq_ofNat_of_zero_le h0
    have hi : i < l.length := by omega
    have hx := hl l[i] (List.getElem_mem hi)
    have e2 : rd l (i : Int) = l[i] := rd_nat l i hi
    have e3 : wrap64 l[i] = l[i] := w64 (by omega) (by omega)
    rw [if_pos (show (i : Int) + 1 ≤ (l.length : Int) by omega), e2, e3]
    exact ⟨_, _, _, rfl, hx, by omega, by omega⟩
  · rw [if_neg c]
    have c2 : ¬ s1 + 1 ≤ (l.length : Int) := by omega
    rw [if_neg c2]
    refine ⟨_, _, _, rfl, ?_, by omega, by omega⟩
    have hw := u64_b (IntKind.u64.wrap (IntKind.u64.wrap (s2 * 6364136223846793005)) + 1442695040888963407)
    generalize IntKind.u64.wrap (IntKind.u64.wrap (IntKind.u64.wrap (s2 * 6364136223846793005)) + 1442695040888963407) = y at hw ⊢
    exact byte_b y hw
theorem pick_tot (n : Int) (hn : n ≤ 200) : TotS (fun s1 s2 => spec_l1Cur_pick.f l s1 s2 n) 1 (fun r => 0 ≤ r ∧ (0 < n → r < n)) := by
  intro s1 s2 h0 h1
  show ∃ r t1 t2, spec_l1Cur_pick.f l s1 s2 n = some (r, t1, t2) ∧ _
  unfold spec_l1Cur_pick.f
  by_cases c : n ≤ 1
  · rw [if_pos c]
    exact ⟨0, s1, s2, rfl, ⟨Int.le_refl _, fun h => by omega⟩, Int.le_refl _, by omega⟩
  · obtain ⟨r, t1, t2, e, ⟨p0, p1⟩, q0, q1⟩ := next_tot l hl s1 s2 h0 h1
    rw [if_neg c, show spec_l1Cur_next.f l s1 s2 = _ from e]
    simp only [Option.bind_some]
    rw [if_neg (show ¬ n > 200 by omega), if_neg (show ¬ n = 0 by omega)]
    refine ⟨_, _, _, rfl, ⟨?_, fun _ => ?_⟩, q0, q1⟩
    · rw [Int.tmod_eq_emod_of_nonneg p0]; exact Int.emod_nonneg _ (by omega)
    · rw [Int.tmod_eq_emod_of_nonneg p0]; exact Int.emod_lt_of_pos _ (by omega)
theorem one_tot (n : Int) (hn : n ≤ 200) : TotS (fun s1 s2 => spec_l1Cur_one.f l s1 s2 n) 1 (fun _ => True) := by
  intro s1 s2 h0 h1
  obtain ⟨r, t1, t2, e, _, q0, q1⟩ := pick_tot l hl n hn s1 s2 h0 h1
  refine ⟨(r == 0), t1, t2, ?_, trivial, q0, q1⟩
  show spec_l1Cur_one.f l s1 s2 n = _
  unfold spec_l1Cur_one.f
  rw [show spec_l1Cur_pick.f l s1 s2 n = _ from e]; rfl
theorem among_tot (xs : List Int) (h : 0 < xs.length) (h2 : xs.length ≤ 200) : TotS (fun s1 s2 => spec_l1Cur_among.f l s1 s2 xs) 1 (fun _ => True) := by
  intro s1 s2 h0 h1
  obtain ⟨r, t1, t2, e, ⟨p0, p1⟩, q0, q1⟩ := pick_tot l hl (xs.length : Int) (by omega) s1 s2 h0 h1
  refine ⟨rd xs r, t1, t2, ?_, trivial, q0, q1⟩
  show spec_l1Cur_among.f l s1 s2 xs = _
  unfold spec_l1Cur_among.f
  rw [show spec_l1Cur_pick.f l s1 s2 (xs.length : Int) = _ from e]
  simp only [Option.bind_some]
  rw [if_pos p0, if_pos (p1 (by omega))]
theorem of_tot (xs : List ByteArray) (h : 0 < xs.length) (h2 : xs.length ≤ 200) : TotS (fun s1 s2 => spec_l1Cur_of.f l s1 s2 xs) 1 (fun r => r ∈ xs) := by
  intro s1 s2 h0 h1
  obtain ⟨r, t1, t2, e, ⟨p0, p1⟩, q0, q1⟩ := pick_tot l hl (xs.length : Int) (by omega) s1 s2 h0 h1
  have p2 := p1 (by omega)
  refine ⟨rdOf ByteArray.empty xs r, t1, t2, ?_, ?_, q0, q1⟩
  · show spec_l1Cur_of.f l s1 s2 xs = _
    unfold spec_l1Cur_of.f
    rw [show spec_l1Cur_pick.f l s1 s2 (xs.length : Int) = _ from e]
    simp only [Option.bind_some]
    rw [if_pos p0, if_pos p2]
  · unfold rdOf
    have hi : r.toNat < xs.length := by omega
    rw [List.getD_eq_getElem?_getD, List.getElem?_eq_getElem hi]
    exact List.getElem_mem hi
theorem path_tot (n : Nat) : ∀ (x5 : ByteArray) (s1 s2 : Int), n ≤ 1000 → x5.size ≤ 100000 - 2 * n → 0 ≤ s1 → s1 ≤ 900000 - n → ∃ r t1 t2, (∀ k, n < k → spec_l1Cur_path.l0 k x5 (n : Int) l s1 s2 = some (r, t1, t2)) ∧ r.size ≤ x5.size + n ∧ s1 ≤ t1 ∧ t1 ≤ s1 + n := by
  induction n with
  | zero =>
    intro x5 s1 s2 _ _ h0 _
    exact ⟨x5, s1, s2, fun k hk => by
      obtain ⟨k, rfl⟩ : ∃ m, k = m + 1 := ⟨k - 1, by omega⟩
      simp only [spec_l1Cur_path.l0]
      rw [if_neg (by decide)], by omega, by omega, by omega⟩
  | succ n ih =>
    intro x5 s1 s2 hn hx h0 h1
    obtain ⟨r, t1, t2, e, hr, q0, q1⟩ := of_tot l hl [(⟨#[85]⟩ : ByteArray), (⟨#[68]⟩ : ByteArray)] (by decide) (by decide) s1 s2 h0 (by omega)
    have hs : r.size = 1 := by
      simp only [List.mem_cons, List.not_mem_nil, or_false] at hr
      rcases hr with rfl | rfl <;> rfl
    obtain ⟨r', u1, u2, e2, z, w0, w1⟩ := ih (x5 ++ r) t1 t2 (by omega) (by rw [ByteArray.size_append]; omega) (by omega) (by omega)
    rw [ByteArray.size_append] at z
    refine ⟨r', u1, u2, fun k hk => ?_, by omega, by omega, by omega⟩
    obtain ⟨k, rfl⟩ : ∃ m, k = m + 1 := ⟨k - 1, by omega⟩
    simp only [spec_l1Cur_path.l0]
    rw [if_pos (by omega), show spec_l1Cur_of.f l s1 s2 _ = _ from e]
    simp only [Option.bind_some]
    rw [if_pos (by omega), show wrap64 (((n + 1 : Nat) : Int) - 1) = (n : Int) by rw [w64 (by omega) (by omega)]; omega]
    exact e2 k (by omega)
theorem good_tot (n : Nat) : ∀ (x5 : ByteArray) (x6 s1 s2 : Int), n ≤ 1000 → x5.size ≤ 100000 - n → 0 ≤ s1 → s1 ≤ 900000 - n → ∃ r t1 t2, (∀ k, n < k → spec_l1Cur_goodPath.l0 k x5 x6 (n : Int) l s1 s2 = some (r, t1, t2)) ∧ r.size ≤ x5.size + n ∧ s1 ≤ t1 ∧ t1 ≤ s1 + n := by
  induction n with
  | zero =>
    intro x5 x6 s1 s2 _ _ h0 _
    exact ⟨x5, s1, s2, fun k hk => by
      obtain ⟨k, rfl⟩ : ∃ m, k = m + 1 := ⟨k - 1, by omega⟩
      simp only [spec_l1Cur_goodPath.l0]
      rw [if_neg (by decide)], by omega, by omega, by omega⟩
  | succ n ih =>
    intro x5 x6 s1 s2 hn hx h0 h1
    have ew : wrap64 (((n + 1 : Nat) : Int) - 1) = (n : Int) := by rw [w64 (by omega) (by omega)]; omega
    have hp : ((n + 1 : Nat) : Int) > 0 := by omega
    have hz : x5.size + 1 ≤ 9223372036854775807 := by omega
    have sz : ∀ b : UInt8, (x5 ++ (⟨#[b]⟩ : ByteArray)).size = x5.size + 1 := fun b => by rw [ByteArray.size_append]; rfl
    by_cases c1 : x6 = ((n + 1 : Nat) : Int)
    · obtain ⟨r', u1, u2, e2, z, w0, w1⟩ := ih (x5 ++ (⟨#[68]⟩ : ByteArray)) (wrap64 (x6 - 1)) s1 s2 (by omega) (by rw [sz]; omega) (by omega) (by omega)
      rw [sz] at z
      refine ⟨r', u1, u2, fun k hk => ?_, by omega, by omega, by omega⟩
      obtain ⟨k, rfl⟩ : ∃ m, k = m + 1 := ⟨k - 1, by omega⟩
      simp only [spec_l1Cur_goodPath.l0]
      rw [if_pos hp, if_pos c1, if_pos hz, ew]
      exact e2 k (by omega)
    · by_cases c2 : x6 > 0
      · obtain ⟨b, t1, t2, e, _, q0, q1⟩ := one_tot l hl 2 (by omega) s1 s2 h0 (by omega)
        cases b with
        | true =>
          obtain ⟨r', u1, u2, e2, z, w0, w1⟩ := ih (x5 ++ (⟨#[68]⟩ : ByteArray)) (wrap64 (x6 - 1)) t1 t2 (by omega) (by rw [sz]; omega) (by omega) (by omega)
          rw [sz] at z
          refine ⟨r', u1, u2, fun k hk => ?_, by omega, by omega, by omega⟩
          obtain ⟨k, rfl⟩ : ∃ m, k = m + 1 := ⟨k - 1, by omega⟩
          simp only [spec_l1Cur_goodPath.l0]
          rw [if_pos hp, if_neg c1, if_pos c2, show spec_l1Cur_one.f l s1 s2 2 = _ from e]
          simp only [Option.bind_some, if_true]
          rw [if_pos hz, ew]
          exact e2 k (by omega)
        | false =>
          obtain ⟨r', u1, u2, e2, z, w0, w1⟩ := ih (x5 ++ (⟨#[85]⟩ : ByteArray)) (wrap64 (x6 + 1)) t1 t2 (by omega) (by rw [sz]; omega) (by omega) (by omega)
          rw [sz] at z
          refine ⟨r', u1, u2, fun k hk => ?_, by omega, by omega, by omega⟩
          obtain ⟨k, rfl⟩ : ∃ m, k = m + 1 := ⟨k - 1, by omega⟩
          simp only [spec_l1Cur_goodPath.l0]
          rw [if_pos hp, if_neg c1, if_pos c2, show spec_l1Cur_one.f l s1 s2 2 = _ from e]
          simp only [Option.bind_some]
          rw [if_neg (by decide), if_pos hz, ew]
          exact e2 k (by omega)
      · obtain ⟨r', u1, u2, e2, z, w0, w1⟩ := ih (x5 ++ (⟨#[85]⟩ : ByteArray)) (wrap64 (x6 + 1)) s1 s2 (by omega) (by rw [sz]; omega) (by omega) (by omega)
        rw [sz] at z
        refine ⟨r', u1, u2, fun k hk => ?_, by omega, by omega, by omega⟩
        obtain ⟨k, rfl⟩ : ∃ m, k = m + 1 := ⟨k - 1, by omega⟩
        simp only [spec_l1Cur_goodPath.l0]
        rw [if_pos hp, if_neg c1, if_neg c2, if_pos hz, ew]
        exact e2 k (by omega)
theorem spoil_tot (n : Nat) : ∀ (x1 : ByteArray) (s1 s2 : Int), n ≤ 10 → x1.size ≤ 150 - n → 0 ≤ s1 → s1 ≤ 900000 - 3 * n → ∃ r t1 t2, (∀ k, 2 * n + 1 < k → spec_l1Cur_spoilt.l0 k x1 (⟨#[85, 68, 88, 32, 117]⟩ : ByteArray) (n : Int) l s1 s2 = some (r, t1, t2)) ∧ r.size ≤ x1.size + n ∧ s1 ≤ t1 ∧ t1 ≤ s1 + 3 * n := by
  induction n with
  | zero =>
    intro x1 s1 s2 _ _ h0 _
    exact ⟨x1, s1, s2, fun k hk => by
      obtain ⟨k, rfl⟩ : ∃ m, k = m + 2 := ⟨k - 2, by omega⟩
      simp only [spec_l1Cur_spoilt.l0]
      rw [if_neg (by decide)]
      simp only [spec_l1Cur_spoilt.j1]
      rw [if_neg (by decide)], by omega, by omega, by omega⟩
  | succ n ih =>
    intro x1 s1 s2 hn hx h0 h1
    have hn9 : n ≤ 9 := by omega
    have hp : ((n + 1 : Nat) : Int) > 0 := by omega
    by_cases c0 : x1.size = 0
    · exact ⟨x1, s1, s2, fun k hk => by
        obtain ⟨k, rfl⟩ : ∃ m, k = m + 2 := ⟨k - 2, by omega⟩
        simp only [spec_l1Cur_spoilt.l0]
        rw [if_pos hp, decide_eq_false (by omega)]
        simp only [spec_l1Cur_spoilt.j1]
        rw [if_neg (by decide)], by omega, by omega, by omega⟩
    · obtain ⟨r, t1, t2, e1, ⟨p0, p1⟩, q0, q1⟩ := pick_tot l hl (x1.size : Int) (by omega) s1 s2 h0 (by omega)
      have p1 := p1 (by omega)
      obtain ⟨v, v1, v2, e2, ⟨g0, g1⟩, q2, q3⟩ := pick_tot l hl 5 (by omega) t1 t2 (by omega) (by omega)
      have g1 := g1 (by omega)
      obtain ⟨c, u1, u2, e3, _, q4, q5⟩ := pick_tot l hl 3 (by omega) v1 v2 (by omega) (by omega)
      obtain ⟨i, rfl⟩ := Int.eq_ofNat_of_zero_le p0
      have hi : i < x1.size := by omega
      have z0 : (x1.extract 0 i).size = i := by rw [ByteArray.size_extract]; omega
      have z1 : (x1.extract i x1.size).size = x1.size - i := by rw [ByteArray.size_extract]; omega
      have z2 : (x1.extract (i + 1) x1.size).size = x1.size - (i + 1) := by rw [ByteArray.size_extract]; omega
      have z3 : (strOfNums ([bt (⟨#[85, 68, 88, 32, 117]⟩ : ByteArray) v] : List Int)).size = 1 := rfl
      have hi9 : i ≤ 1000 := by omega
      by_cases d0 : c = 0
      · obtain ⟨r', w1, w2, f, z, k0, k1⟩ := ih (((x1.extract 0 i) ++ (strOfNums ([bt (⟨#[85, 68, 88, 32, 117]⟩ : ByteArray) v] : List Int))) ++ (x1.extract i x1.size)) u1 u2 (by omega) (by rw [ByteArray.size_append, ByteArray.size_append, z0, z1, z3]; omega) (by omega) (by omega)
        rw [ByteArray.size_append, ByteArray.size_append, z0, z1, z3] at z
        refine ⟨r', w1, w2, fun k hk => ?_, by omega, by omega, by omega⟩
        obtain ⟨k, rfl⟩ : ∃ m, k = m + 2 := ⟨k - 2, by omega⟩
        simp only [spec_l1Cur_spoilt.l0]
        rw [if_pos hp, decide_eq_true (by omega)]
        simp only [spec_l1Cur_spoilt.j1]
        rw [if_pos trivial, show spec_l1Cur_pick.f l s1 s2 (x1.size : Int) = _ from e1]
        simp only [Option.bind_some, size5]
        rw [show spec_l1Cur_pick.f l t1 t2 5 = _ from e2]
        simp only [Option.bind_some]
        rw [if_pos g0, if_pos g1, show spec_l1Cur_pick.f l v1 v2 3 = _ from e3]
        simp only [Option.bind_some, Int.toNat_natCast, pre_w n hn9]
        rw [if_pos d0, if_pos (Int.natCast_nonneg i), if_pos (by omega), if_pos (by rw [z0, z3]; omega), if_pos (by rw [ByteArray.size_append, z0, z3, z1]; omega)]
        exact f k (by omega)
      · by_cases d1 : c = 1
        · obtain ⟨r', w1, w2, f, z, k0, k1⟩ := ih (((x1.extract 0 i) ++ (strOfNums ([bt (⟨#[85, 68, 88, 32, 117]⟩ : ByteArray) v] : List Int))) ++ (x1.extract (i + 1) x1.size)) u1 u2 (by omega) (by rw [ByteArray.size_append, ByteArray.size_append, z0, z2, z3]; omega) (by omega) (by omega)
          rw [ByteArray.size_append, ByteArray.size_append, z0, z2, z3] at z
          refine ⟨r', w1, w2, fun k hk => ?_, by omega, by omega, by omega⟩
          obtain ⟨k, rfl⟩ : ∃ m, k = m + 2 := ⟨k - 2, by omega⟩
          simp only [spec_l1Cur_spoilt.l0]
          rw [if_pos hp, decide_eq_true (by omega)]
          simp only [spec_l1Cur_spoilt.j1]
          rw [if_pos trivial, show spec_l1Cur_pick.f l s1 s2 (x1.size : Int) = _ from e1]
          simp only [Option.bind_some, size5]
          rw [show spec_l1Cur_pick.f l t1 t2 5 = _ from e2]
          simp only [Option.bind_some]
          rw [if_pos g0, if_pos g1, show spec_l1Cur_pick.f l v1 v2 3 = _ from e3]
          simp only [Option.bind_some, Int.toNat_natCast, pre_w n hn9, suc_w i hi9]
          rw [if_neg d0, if_pos d1, if_pos (Int.natCast_nonneg i), if_pos (by omega), if_pos (by rw [z0, z3]; omega), if_pos (Int.natCast_nonneg _), if_pos (by omega), if_pos (by rw [ByteArray.size_append, z0, z3, z2]; omega)]
          exact f k (by omega)
        · obtain ⟨r', w1, w2, f, z, k0, k1⟩ := ih ((x1.extract 0 i) ++ (x1.extract (i + 1) x1.size)) u1 u2 (by omega) (by rw [ByteArray.size_append, z0, z2]; omega) (by omega) (by omega)
          rw [ByteArray.size_append, z0, z2] at z
          refine ⟨r', w1, w2, fun k hk => ?_, by omega, by omega, by omega⟩
          obtain ⟨k, rfl⟩ : ∃ m, k = m + 2 := ⟨k - 2, by omega⟩
          simp only [spec_l1Cur_spoilt.l0]
          rw [if_pos hp, decide_eq_true (by omega)]
          simp only [spec_l1Cur_spoilt.j1]
          rw [if_pos trivial, show spec_l1Cur_pick.f l s1 s2 (x1.size : Int) = _ from e1]
          simp only [Option.bind_some, size5]
          rw [show spec_l1Cur_pick.f l t1 t2 5 = _ from e2]
          simp only [Option.bind_some]
          rw [if_pos g0, if_pos g1, show spec_l1Cur_pick.f l v1 v2 3 = _ from e3]
          simp only [Option.bind_some, Int.toNat_natCast, pre_w n hn9, suc_w i hi9]
          rw [if_neg d0, if_neg d1, if_pos (Int.natCast_nonneg i), if_pos (by omega), if_pos (Int.natCast_nonneg _), if_pos (by omega), if_pos (by rw [z0, z2]; omega)]
          exact f k (by omega)
theorem any_tot (d : Nat) : ∀ (x5 : ByteArray) (s1 s2 : Int), d ≤ 40 → 41 ≤ x5.size + 2 * d → x5.size ≤ 100 - 2 * d → 0 ≤ s1 → s1 ≤ 900000 - 3 * d → ∃ r t1 t2, (∀ k, d < k → spec_l1Cur_anyPath.l0 k x5 l s1 s2 = some (r, t1, t2)) ∧ r.size ≤ 100 ∧ s1 ≤ t1 ∧ t1 ≤ s1 + 3 * d + 1 := by
  induction d with
  | zero =>
    intro x5 s1 s2 _ hx hx2 h0 h1
    obtain ⟨r, t1, t2, e1, ⟨p0, p1⟩, q0, q1⟩ := pick_tot l hl 2 (by omega) s1 s2 h0 (by omega)
    have p1 := p1 (by omega)
    refine ⟨x5, t1, t2, fun k hk => ?_, by omega, by omega, by omega⟩
    obtain ⟨k, rfl⟩ : ∃ m, k = m + 1 := ⟨k - 1, by omega⟩
    simp only [spec_l1Cur_anyPath.l0]
    rw [show spec_l1Cur_pick.f l s1 s2 2 = _ from e1]
    simp only [Option.bind_some, pl_w r p0 p1]
    rw [if_neg (by omega)]
  | succ d ih =>
    intro x5 s1 s2 hd hx hx2 h0 h1
    obtain ⟨r, t1, t2, e1, ⟨p0, p1⟩, q0, q1⟩ := pick_tot l hl 2 (by omega) s1 s2 h0 (by omega)
    have p1 := p1 (by omega)
    by_cases c : (x5.size : Int) < 40 + r
    · obtain ⟨b, v1, v2, e2, hb, q2, q3⟩ := of_tot l hl [(⟨#[85, 68]⟩ : ByteArray), (⟨#[68, 85]⟩ : ByteArray), (⟨#[85, 85]⟩ : ByteArray)] (by decide) (by decide) t1 t2 (by omega) (by omega)
      have hs : b.size = 2 := by
        simp only [List.mem_cons, List.not_mem_nil, or_false] at hb
        rcases hb with rfl | rfl | rfl <;> rfl
      obtain ⟨r', u1, u2, f, z, k0, k1⟩ := ih (x5 ++ b) v1 v2 (by omega) (by rw [ByteArray.size_append]; omega) (by rw [ByteArray.size_append]; omega) (by omega) (by omega)
      refine ⟨r', u1, u2, fun k hk => ?_, z, by omega, by omega⟩
      obtain ⟨k, rfl⟩ : ∃ m, k = m + 1 := ⟨k - 1, by omega⟩
      simp only [spec_l1Cur_anyPath.l0]
      rw [show spec_l1Cur_pick.f l s1 s2 2 = _ from e1]
      simp only [Option.bind_some, pl_w r p0 p1]
      rw [if_pos c, show spec_l1Cur_of.f l t1 t2 _ = _ from e2]
      simp only [Option.bind_some]
      rw [if_pos (by omega)]
      exact f k (by omega)
    · refine ⟨x5, t1, t2, fun k hk => ?_, by omega, by omega, by omega⟩
      obtain ⟨k, rfl⟩ : ∃ m, k = m + 1 := ⟨k - 1, by omega⟩
      simp only [spec_l1Cur_anyPath.l0]
      rw [show spec_l1Cur_pick.f l s1 s2 2 = _ from e1]
      simp only [Option.bind_some, pl_w r p0 p1]
      rw [if_neg c]
end
section
variable (l : List Int) (hl : ∀ x ∈ l, 0 ≤ x ∧ x ≤ 255)
include hl
theorem goodf_tot (a : Int) (ha : 0 ≤ a ∧ a ≤ 20) (s1 s2 : Int) (h0 : 0 ≤ s1) (h1 : s1 ≤ 800000) : ∃ r t1 t2, (∀ k, 100 < k → spec_l1Cur_goodPath.f k l s1 s2 a = some (r, t1, t2)) ∧ r.size ≤ 100 ∧ 0 ≤ t1 ∧ t1 ≤ s1 + 100 := by
  have ea : wrap64 (a + 1) = a + 1 := w64 (by omega) (by omega)
  obtain ⟨r, t1, t2, e, ⟨p0, p1⟩, q0, q1⟩ := pick_tot l hl (a + 1) (by omega) s1 s2 h0 (by omega)
  have p1 := p1 (by omega)
  obtain ⟨n, rfl⟩ := Int.eq_ofNat_of_zero_le p0
  have er : wrap64 (2 * (n : Int)) = ((2 * n : Nat) : Int) := by rw [w64 (by omega) (by omega)]; omega
  clear ea
  obtain ⟨r', u1, u2, f, z, z1, z2⟩ := good_tot l hl (2 * n) (⟨#[]⟩ : ByteArray) 0 t1 t2 (by omega) (by show 0 ≤ _; omega) (by omega) (by omega)
  refine ⟨r', u1, u2, fun k hk => ?_, by have : (⟨#[]⟩ : ByteArray).size = 0 := rfl; omega, by omega, by omega⟩
  unfold spec_l1Cur_goodPath.f
  rw [show wrap64 (a + 1) = a + 1 from w64 (by omega) (by omega), show spec_l1Cur_pick.f l s1 s2 (a + 1) = _ from e]
  simp only [Option.bind_some]
  rw [er]
  exact f k (by omega)
theorem pathf_tot (a : Int) (ha : 0 ≤ a ∧ a ≤ 20) (s1 s2 : Int) (h0 : 0 ≤ s1) (h1 : s1 ≤ 800000) : ∃ r t1 t2, (∀ k, 100 < k → spec_l1Cur_path.f k l s1 s2 a = some (r, t1, t2)) ∧ r.size ≤ 100 ∧ 0 ≤ t1 ∧ t1 ≤ s1 + 100 := by
  obtain ⟨r, t1, t2, e, ⟨p0, p1⟩, q0, q1⟩ := pick_tot l hl (a + 1) (by omega) s1 s2 h0 (by omega)
  have p1 := p1 (by omega)
  obtain ⟨n, rfl⟩ := Int.eq_ofNat_of_zero_le p0
  obtain ⟨r', u1, u2, f, z, _, _⟩ := path_tot l hl n (⟨#[]⟩ : ByteArray) t1 t2 (by omega) (by show 0 ≤ _; omega) (by omega) (by omega)
  refine ⟨r', u1, u2, fun k hk => ?_, by have : (⟨#[]⟩ : ByteArray).size = 0 := rfl; omega, by omega, by omega⟩
  unfold spec_l1Cur_path.f
  rw [show wrap64 (a + 1) = a + 1 from w64 (by omega) (by omega), show spec_l1Cur_pick.f l s1 s2 (a + 1) = _ from e]
  simp only [Option.bind_some]
  exact f k (by omega)
theorem spoilf_tot (x1 : ByteArray) (hx : x1.size ≤ 100) (s1 s2 : Int) (h0 : 0 ≤ s1) (h1 : s1 ≤ 800000) : ∃ r t1 t2, (∀ k, 100 < k → spec_l1Cur_spoilt.f k l s1 s2 x1 (⟨#[85, 68, 88, 32, 117]⟩ : ByteArray) = some (r, t1, t2)) ∧ r.size ≤ 200 ∧ 0 ≤ t1 ∧ t1 ≤ s1 + 100 := by
  obtain ⟨r, t1, t2, e, ⟨p0, p1⟩, q0, q1⟩ := pick_tot l hl 2 (by omega) s1 s2 h0 (by omega)
  have p1 := p1 (by omega)
  obtain ⟨n, rfl⟩ := Int.eq_ofNat_of_zero_le p0
  obtain ⟨r', u1, u2, f, z, z1, z2⟩ := spoil_tot l hl (1 + n) x1 t1 t2 (by omega) (by omega) (by omega) (by omega)
  refine ⟨r', u1, u2, fun k hk => ?_, by omega, by omega, by omega⟩
  unfold spec_l1Cur_spoilt.f
  rw [show spec_l1Cur_pick.f l s1 s2 2 = _ from e]
  simp only [Option.bind_some]
  rw [show wrap64 (1 + (n : Int)) = ((1 + n : Nat) : Int) by rw [w64 (by omega) (by omega)]; omega]
  exact f k (by omega)
theorem j1_tot (b : Bool) (s1 s2 : Int) (h0 : 0 ≤ s1) (h1 : s1 ≤ 800000) : ∃ r t1 t2, (∀ k, 200 < k → spec_l1Cur_anyPath.j1 k 14 b l s1 s2 = some (r, t1, t2)) ∧ r.size ≤ 200 ∧ 0 ≤ t1 ∧ t1 ≤ s1 + 200 := by
  cases b with
  | true =>
    obtain ⟨r, t1, t2, f, z, z1, z2⟩ := goodf_tot l hl 7 (by omega) s1 s2 h0 h1
    refine ⟨r, t1, t2, fun k hk => ?_, by omega, by omega, by omega⟩
    obtain ⟨k, rfl⟩ : ∃ m, k = m + 1 := ⟨k - 1, by omega⟩
    simp only [spec_l1Cur_anyPath.j1]
    rw [if_pos trivial, show wrap64 (Int.tdiv 14 2) = 7 from w64 (by decide) (by decide), f k (by omega)]
    rfl
  | false =>
    obtain ⟨r, t1, t2, f, z, z1, z2⟩ := pathf_tot l hl 14 (by omega) s1 s2 h0 h1
    refine ⟨r, t1, t2, fun k hk => ?_, by omega, by omega, by omega⟩
    obtain ⟨k, rfl⟩ : ∃ m, k = m + 1 := ⟨k - 1, by omega⟩
    simp only [spec_l1Cur_anyPath.j1]
    rw [if_neg (by decide), f k (by omega)]
    rfl
theorem anyf_tot (s1 s2 : Int) (h0 : 0 ≤ s1) (h1 : s1 ≤ 1000) : ∃ r t1 t2, (∀ k, 300 < k → spec_l1Cur_anyPath.f k l s1 s2 14 = some (r, t1, t2)) ∧ r.size ≤ 200 ∧ 0 ≤ t1 ∧ t1 ≤ s1 + 500 := by
  obtain ⟨r, t1, t2, e, _, q0, q1⟩ := pick_tot l hl 16 (by omega) s1 s2 h0 (by omega)
  by_cases c0 : r = 0
  · obtain ⟨p, u1, u2, f, z, z1, z2⟩ := pathf_tot l hl 14 (by omega) t1 t2 (by omega) (by omega)
    obtain ⟨p', v1, v2, f', z', y1, y2⟩ := spoilf_tot l hl p z u1 u2 z1 (by omega)
    refine ⟨p', v1, v2, fun k hk => ?_, by omega, by omega, by omega⟩
    unfold spec_l1Cur_anyPath.f
    rw [show spec_l1Cur_pick.f l s1 s2 16 = _ from e]
    simp only [Option.bind_some]
    rw [if_pos c0, f k (by omega)]
    simp only [Option.bind_some]
    rw [f' k (by omega)]
    rfl
  · by_cases c1 : r = 1
    · obtain ⟨p, u1, u2, f, z, y1, y2⟩ := any_tot l hl 21 (⟨#[]⟩ : ByteArray) t1 t2 (by omega) (by omega) (by show 0 ≤ _; omega) (by omega) (by omega)
      refine ⟨p, u1, u2, fun k hk => ?_, by omega, by omega, by omega⟩
      unfold spec_l1Cur_anyPath.f
      rw [show spec_l1Cur_pick.f l s1 s2 16 = _ from e]
      simp only [Option.bind_some]
      rw [if_neg c0, if_pos c1]
      exact f k (by omega)
    · have hj : ∀ b : Bool, ∃ r t1' t2', (∀ k, 200 < k → spec_l1Cur_anyPath.j1 k 14 b l t1 t2 = some (r, t1', t2')) ∧ r.size ≤ 200 ∧ 0 ≤ t1' ∧ t1' ≤ t1 + 200 := fun b => j1_tot l hl b t1 t2 (by omega) (by omega)
      obtain ⟨b, hb⟩ : ∃ b : Bool, ∀ k, spec_l1Cur_anyPath.f k l s1 s2 14 = spec_l1Cur_anyPath.j1 k 14 b l t1 t2 := by
        refine ⟨if r = 2 then (r == 2) else if r = 3 then (r == 3) else if r = 4 then (r == 4) else if r = 5 then (r == 5) else (r == 6), fun k => ?_⟩
        unfold spec_l1Cur_anyPath.f
        rw [show spec_l1Cur_pick.f l s1 s2 16 = _ from e]
        simp only [Option.bind_some]
        rw [if_neg c0, if_neg c1]
        by_cases d2 : r = 2
        · rw [if_pos d2, if_pos d2]
        · rw [if_neg d2, if_neg d2]
          by_cases d3 : r = 3
          · rw [if_pos d3, if_pos d3]
          · rw [if_neg d3, if_neg d3]
            by_cases d4 : r = 4
            · rw [if_pos d4, if_pos d4]
            · rw [if_neg d4, if_neg d4]
              by_cases d5 : r = 5
              · rw [if_pos d5, if_pos d5]
              · rw [if_neg d5, if_neg d5]
      obtain ⟨p, u1, u2, f, z, y1, y2⟩ := hj b
      exact ⟨p, u1, u2, fun k hk => by rw [hb k]; exact f k (by omega), z, y1, by omega⟩
theorem ratio_tot : ∃ (s : ByteArray) (c : Int), s.size ≤ 200 ∧ ∀ k, 300 < k → spec_DrawRatioRotations.f k l = some (s, c) := by
  obtain ⟨p, u1, u2, f, z, y1, y2⟩ := anyf_tot l hl 0 0 (by omega) (by omega)
  obtain ⟨r, t1, t2, e, _, _, _⟩ := among_tot l hl [0, 1, 1, 2, 3, 40, 41, (-1)] (by decide) (by decide) u1 u2 y1 (by omega)
  refine ⟨p, r, z, fun k hk => ?_⟩
  unfold spec_DrawRatioRotations.f
  rw [f k hk, Option.bind_some]
  show ((spec_l1Cur_among.f l u1 u2 [0, 1, 1, 2, 3, 40, 41, (-1)]).bind _) = _
  rw [show spec_l1Cur_among.f l u1 u2 [0, 1, 1, 2, 3, 40, 41, (-1)] = _ from e, Option.bind_some]
theorem deg1_tot (d : Nat) : ∀ (x6 : List Int) (s1 s2 : Int), d ≤ 100 → 17 ≤ x6.length + d → x6.length + d ≤ 150 → 0 ≤ s1 → s1 ≤ 900000 - d → ∃ r t1 t2, (∀ k, d < k → spec_l1Cur_degrees.l1 k x6 l s1 s2 = some (r, t1, t2)) ∧ r.length ≤ 150 ∧ s1 ≤ t1 ∧ t1 ≤ s1 + d + 1 := by
  induction d with
  | zero =>
    intro x6 s1 s2 _ hx hx2 h0 h1
    obtain ⟨r, t1, t2, e1, ⟨p0, p1⟩, q0, q1⟩ := pick_tot l hl 2 (by omega) s1 s2 h0 (by omega)
    have p1 := p1 (by omega)
    have ew : wrap64 (16 + r) = 16 + r := w64 (by omega) (by omega)
    refine ⟨x6, t1, t2, fun k hk => ?_, by omega, by omega, by omega⟩
    obtain ⟨k, rfl⟩ : ∃ m, k = m + 1 := ⟨k - 1, by omega⟩
    rw [spec_l1Cur_degrees.l1, show spec_l1Cur_pick.f l s1 s2 2 = _ from e1, Option.bind_some]
    show (if (x6.length : Int) < wrap64 (16 + r) then _ else _) = _
    rw [ew, if_neg (by omega)]
  | succ d ih =>
    intro x6 s1 s2 hd hx hx2 h0 h1
    obtain ⟨r, t1, t2, e1, ⟨p0, p1⟩, q0, q1⟩ := pick_tot l hl 2 (by omega) s1 s2 h0 (by omega)
    have p1 := p1 (by omega)
    have ew : wrap64 (16 + r) = 16 + r := w64 (by omega) (by omega)
    by_cases c : (x6.length : Int) < 16 + r
    · obtain ⟨r', u1, u2, f, z, k0, k1⟩ := ih (x6 ++ [0]) t1 t2 (by omega) (by rw [List.length_append, List.length_singleton]; omega) (by rw [List.length_append, List.length_singleton]; omega) (by omega) (by omega)
      refine ⟨r', u1, u2, fun k hk => ?_, z, by omega, by omega⟩
      obtain ⟨k, rfl⟩ : ∃ m, k = m + 1 := ⟨k - 1, by omega⟩
      rw [spec_l1Cur_degrees.l1, show spec_l1Cur_pick.f l s1 s2 2 = _ from e1, Option.bind_some]
      show (if (x6.length : Int) < wrap64 (16 + r) then (if x6.length < 17592186044416 then spec_l1Cur_degrees.l1 k (x6 ++ [0]) l t1 t2 else none) else _) = _
      rw [ew, if_pos c, if_pos (by omega)]
      exact f k (by omega)
    · refine ⟨x6, t1, t2, fun k hk => ?_, by omega, by omega, by omega⟩
      obtain ⟨k, rfl⟩ : ∃ m, k = m + 1 := ⟨k - 1, by omega⟩
      rw [spec_l1Cur_degrees.l1, show spec_l1Cur_pick.f l s1 s2 2 = _ from e1, Option.bind_some]
      show (if (x6.length : Int) < wrap64 (16 + r) then _ else _) = _
      rw [ew, if_neg c]
theorem deg0_tot (n : Nat) (hn : 1 ≤ n ∧ n ≤ 10) (m : Nat) : ∀ (x6 : List Int) (s1 s2 : Int), m ≤ 100 → x6.length = n → 0 ≤ s1 → s1 ≤ 800000 - m → ∃ r t1 t2, (∀ k, m + 50 < k → spec_l1Cur_degrees.l0 k (n : Int) x6 (m : Int) l s1 s2 = some (r, t1, t2)) ∧ r.length ≤ 150 ∧ s1 ≤ t1 ∧ t1 ≤ s1 + m + 60 := by
  induction m with
  | zero =>
    intro x6 s1 s2 _ hx h0 h1
    obtain ⟨r, t1, t2, e1, _, q0, q1⟩ := pick_tot l hl 16 (by omega) s1 s2 h0 (by omega)
    by_cases c0 : r = 0
    · obtain ⟨i, u1, u2, e2, ⟨p0, p1⟩, q2, q3⟩ := pick_tot l hl (n : Int) (by omega) t1 t2 (by omega) (by omega)
      have p1 := p1 (by omega)
      obtain ⟨v, v1, v2, e3, _, q4, q5⟩ := among_tot l hl [(-1), 16, 17, 4611686018427387904] (by decide) (by decide) u1 u2 (by omega) (by omega)
      refine ⟨x6.set i.toNat v, v1, v2, fun k hk => ?_, by rw [List.length_set]; omega, by omega, by omega⟩
      obtain ⟨k, rfl⟩ : ∃ m, k = m + 1 := ⟨k - 1, by omega⟩
      simp only [spec_l1Cur_degrees.l0]
      rw [if_neg (by decide), show spec_l1Cur_pick.f l s1 s2 16 = _ from e1]
      simp only [Option.bind_some]
      rw [if_pos c0, show spec_l1Cur_pick.f l t1 t2 (n : Int) = _ from e2]
      simp only [Option.bind_some]
      rw [show spec_l1Cur_among.f l u1 u2 [(-1), 16, 17, 4611686018427387904] = _ from e3]
      simp only [Option.bind_some]
      rw [if_pos p0, if_pos (by omega)]
    · by_cases c1 : r = 1
      · obtain ⟨r', u1, u2, f, z, k0, k1⟩ := deg1_tot l hl 17 x6 t1 t2 (by omega) (by omega) (by omega) (by omega) (by omega)
        refine ⟨r', u1, u2, fun k hk => ?_, z, by omega, by omega⟩
        obtain ⟨k, rfl⟩ : ∃ m, k = m + 1 := ⟨k - 1, by omega⟩
        simp only [spec_l1Cur_degrees.l0]
        rw [if_neg (by decide), show spec_l1Cur_pick.f l s1 s2 16 = _ from e1]
        simp only [Option.bind_some]
        rw [if_neg c0, if_pos c1]
        exact f k (by omega)
      · by_cases c2 : r = 2
        · refine ⟨[], t1, t2, fun k hk => ?_, by simp, by omega, by omega⟩
          obtain ⟨k, rfl⟩ : ∃ m, k = m + 1 := ⟨k - 1, by omega⟩
          simp only [spec_l1Cur_degrees.l0]
          rw [if_neg (by decide), show spec_l1Cur_pick.f l s1 s2 16 = _ from e1]
          simp only [Option.bind_some]
          rw [if_neg c0, if_neg c1, if_pos c2]
        · refine ⟨x6, t1, t2, fun k hk => ?_, by omega, by omega, by omega⟩
          obtain ⟨k, rfl⟩ : ∃ m, k = m + 1 := ⟨k - 1, by omega⟩
          simp only [spec_l1Cur_degrees.l0]
          rw [if_neg (by decide), show spec_l1Cur_pick.f l s1 s2 16 = _ from e1]
          simp only [Option.bind_some]
          rw [if_neg c0, if_neg c1, if_neg c2]
  | succ m ih =>
    intro x6 s1 s2 hm hx h0 h1
    obtain ⟨i, t1, t2, e1, ⟨p0, p1⟩, q0, q1⟩ := pick_tot l hl (n : Int) (by omega) s1 s2 h0 (by omega)
    have p1 := p1 (by omega)
    have ew : wrap64 (((m + 1 : Nat) : Int) - 1) = (m : Int) := by rw [w64 (by omega) (by omega)]; omega
    obtain ⟨r', u1, u2, f, z, k0, k1⟩ := ih (x6.set i.toNat (wrap64 ((rd x6 i) + 1))) t1 t2 (by omega) (by rw [List.length_set]; exact hx) (by omega) (by omega)
    refine ⟨r', u1, u2, fun k hk => ?_, z, by omega, by omega⟩
    obtain ⟨k, rfl⟩ : ∃ m, k = m + 1 := ⟨k - 1, by omega⟩
    simp only [spec_l1Cur_degrees.l0]
    rw [if_pos (by omega), show spec_l1Cur_pick.f l s1 s2 (n : Int) = _ from e1]
    simp only [Option.bind_some]
    rw [if_pos p0, if_pos (by omega), ew]
    exact f k (by omega)
theorem degf_tot (s1 s2 : Int) (h0 : 0 ≤ s1) (h1 : s1 ≤ 1000) : ∃ r t1 t2, (∀ k, 200 < k → spec_l1Cur_degrees.f k l s1 s2 8 = some (r, t1, t2)) ∧ r.length ≤ 150 ∧ 0 ≤ t1 ∧ t1 ≤ s1 + 200 := by
  obtain ⟨a, t1, t2, e1, ⟨p0, p1⟩, q0, q1⟩ := pick_tot l hl 8 (by omega) s1 s2 h0 (by omega)
  have p1 := p1 (by omega)
  have ew : wrap64 (1 + a) = 1 + a := w64 (by omega) (by omega)
  obtain ⟨n, hn⟩ : ∃ n : Nat, 1 + a = (n : Int) := ⟨(1 + a).toNat, by omega⟩
  obtain ⟨b, u1, u2, e2, ⟨p2, p3⟩, q2, q3⟩ := pick_tot l hl (n : Int) (by omega) t1 t2 (by omega) (by omega)
  have p3 := p3 (by omega)
  obtain ⟨m, rfl⟩ := Int.eq_ofNat_of_zero_le p2
  obtain ⟨r, v1, v2, f, z, k0, k1⟩ := deg0_tot l hl n (by omega) m (List.replicate n 0) u1 u2 (by omega) (by simp) (by omega) (by omega)
  refine ⟨r, v1, v2, fun k hk => ?_, z, by omega, by omega⟩
  unfold spec_l1Cur_degrees.f
  rw [show spec_l1Cur_pick.f l s1 s2 8 = _ from e1]
  simp only [Option.bind_some]
  rw [ew, hn, if_pos (Int.natCast_nonneg n), Int.toNat_natCast, if_pos (by omega), show spec_l1Cur_pick.f l t1 t2 (n : Int) = _ from e2]
  simp only [Option.bind_some]
  exact f k (by omega)
theorem drawGood_tot : ∃ L : List Int, L.length ≤ 150 ∧ ∀ k, 200 < k → spec_DrawGoodRotations.f k l = some L := by
  obtain ⟨r, t1, t2, f, z, _, _⟩ := degf_tot l hl 0 0 (by omega) (by omega)
  refine ⟨r, z, fun k hk => ?_⟩
  unfold spec_DrawGoodRotations.f spec_DrawIsDegrees.f
  rw [f k hk]; rfl
theorem drawRot_tot : ∃ (L : List Int) (b : Int), L.length ≤ 150 ∧ ∀ k, 200 < k → spec_DrawRotateList.f k l = some (L, b) := by
  obtain ⟨r, t1, t2, f, z, y1, y2⟩ := degf_tot l hl 0 0 (by omega) (by omega)
  have ew : wrap64 ((r.length : Int) + 2) = (r.length : Int) + 2 := w64 (by omega) (by omega)
  obtain ⟨a, u1, u2, e1, _, q0, q1⟩ := pick_tot l hl ((r.length : Int) + 2) (by omega) t1 t2 y1 (by omega)
  obtain ⟨b, v1, v2, e2, _, _, _⟩ := pick_tot l hl 2 (by omega) u1 u2 (by omega) (by omega)
  refine ⟨r, wrap64 (a - b), z, fun k hk => ?_⟩
  unfold spec_DrawRotateList.f
  rw [f k hk, Option.bind_some]
  show ((spec_l1Cur_pick.f l t1 t2 (wrap64 ((r.length : Int) + 2))).bind _) = _
  rw [ew, show spec_l1Cur_pick.f l t1 t2 ((r.length : Int) + 2) = _ from e1, Option.bind_some]
  show ((spec_l1Cur_pick.f l u1 u2 2).bind _) = _
  rw [show spec_l1Cur_pick.f l u1 u2 2 = _ from e2, Option.bind_some]
end

/-! ### The law -/
theorem same_self (L : List Int) (hl : L.length ≤ 1000) (k : Nat) (hk : 1000 < k) : laws_xSame.f k L L = some true := by
  unfold laws_xSame.f
  rw [if_pos rfl]
  exact (loop_range (fun k (_ : Unit) i => laws_xSame.l0 k L L (L.length : Int) i) L.length (fun _ _ => ()) (fun _ => true) (fun _ _ => True)
    (fun k i _ hi _ => by
      refine ⟨?_, trivial⟩
      have e3 : wrap64 ((i : Int) + 1) = ((i + 1 : Nat) : Int) := by rw [w64 (by omega) (by omega)]; omega
      simp only [laws_xSame.l0, e3, if_true]
      repeat rw [if_pos (by omega)])
    (fun k _ _ => by simp only [laws_xSame.l0]; rw [if_neg (by omega)]) k () trivial (by omega)).1
theorem xHas_l (X : List Int) (hl : X.length ≤ 1000) (a : Int) (d : Nat) : ∀ i k : Nat, i + d = X.length → d < k → laws_xHas.l0 k a X (X.length : Int) (i : Int) = some (decide (a ∈ X.drop i)) := by
  induction d with
  | zero =>
    intro i k h1 h2
    obtain ⟨k, rfl⟩ : ∃ m, k = m + 1 := ⟨k - 1, by omega⟩
    simp only [laws_xHas.l0]
    rw [if_neg (rnl _ _ (by omega)), List.drop_eq_nil_of_le (by omega)]; rfl
  | succ d ih =>
    intro i k h1 h2
    obtain ⟨k, rfl⟩ : ∃ m, k = m + 1 := ⟨k - 1, by omega⟩
    have hi : i < X.length := by omega
    have e1 := rw_suc i (by omega)
    rw [laws_xHas.l0, if_pos (rl _ _ hi), if_pos (Int.natCast_nonneg i), if_pos (rl _ _ hi), rdg, e1, List.drop_eq_getElem_cons hi, getD_lt X i hi]
    by_cases c : X[i] = a
    · rw [if_pos c, decide_eq_true (by rw [← c]; exact List.mem_cons_self)]
    · rw [if_neg c, ih (i + 1) k (by omega) (by omega)]
      congr 1
      rw [decide_eq_decide, List.mem_cons]
      exact ⟨fun h => .inr h, fun h => h.resolve_left fun e => c e.symm⟩
theorem xHas_eq (X : List Int) (hl : X.length ≤ 1000) (a : Int) (k : Nat) (hk : 1000 < k) : laws_xHas.f k X a = some (decide (a ∈ X)) := by
  have := xHas_l X hl a X.length 0 k (by omega) (by omega)
  rw [List.drop_zero] at this
  exact this
theorem mod_b (n j : Nat) (h0 : 0 < n) (h1 : j < n) (h : n ≤ 16) : Int.tmod (wrap64 ((n : Int) - (j : Int))) (n : Int) = (((n - j) % n : Nat) : Int) := by
  have e : wrap64 ((n : Int) - (j : Int)) = ((n - j : Nat) : Int) := by rw [w64 (by omega) (by omega)]; omega
  rw [e, Int.tmod_eq_emod_of_nonneg (Int.natCast_nonneg _)]
  rfl
theorem rot_home (L : List Int) (j : Nat) (h : j < L.length) : rot (rot L j) ((L.length - j) % L.length) = L := by
  by_cases e : j = 0
  · subst e
    rw [Nat.sub_zero, Nat.mod_self, rot_zero, rot_zero]
  · rw [Nat.mod_eq_of_lt (by omega)]
    exact rot_back L j (by omega)
theorem j8_ok (L : List Int) (b : Int) (k : Nat) (hk : 6000 ≤ k) : laws_FnRotationsGood.j8 k L b (rotOf L b) (rok L b) = some true := by
  obtain ⟨k, rfl⟩ : ∃ m, k = m + 1 := ⟨k - 1, by omega⟩
  rw [laws_FnRotationsGood.j8]
  by_cases h : rok L b = true
  · have h2 := h
    unfold rok at h2
    rw [Bool.and_eq_true, Bool.and_eq_true, decide_eq_true_eq, decide_eq_true_eq] at h2
    obtain ⟨hd, h3, h4⟩ := h2
    obtain ⟨⟨d1, d2⟩, d3⟩ := (deg_iff L).mp hd
    obtain ⟨j, rfl⟩ := Int.eq_ofNat_of_zero_le h3
    have er : rotOf L (j : Int) = rot L j := by unfold rotOf; rw [if_pos h, Int.toNat_natCast]
    have hm : (L.length - j) % L.length < L.length := Nat.mod_lt _ (by omega)
    have hr : rok (rot L j) (((L.length - j) % L.length : Nat) : Int) = true := by
      unfold rok
      rw [rot_deg, hd, rot_len, decide_eq_true (Int.natCast_nonneg _), decide_eq_true (by omega)]; rfl
    have ho : rotOf (rot L j) (((L.length - j) % L.length : Nat) : Int) = L := by
      unfold rotOf
      rw [if_pos hr, Int.toNat_natCast, rot_home L j (by omega)]
    rw [if_pos h, if_neg (by omega), er, mod_b L.length j (by omega) (by omega) (by omega), rotOfI _ _ k (by omega), Option.bind_some, hr, if_pos rfl, ho, same_self L (by omega) k (by omega)]
    rfl
  · rw [if_neg h]
theorem l1_w (i : Nat) (h0 : 0 < i) (h : i ≤ 1000) : wrap64 ((i : Int) - 1) = ((i - 1 : Nat) : Int) := by rw [w64 (by omega) (by omega)]; omega
theorem l1_ok (s : ByteArray) (hs : s.size ≤ 40) (hp : okP s) (c : Int) (hc : 0 ≤ c ∧ c ≤ 40) (L : List Int) (b : Int) (d : Nat) : ∀ i k : Nat, i + d = (starts s c).length → 6001 + d ≤ k →
    laws_FnRotationsGood.l1 k s (starts s c) L b (rotOf L b) (rok L b) (starts s c) ((starts s c).length : Int) (i : Int) = some true := by
  have hX : (starts s c).length ≤ 40 := Nat.le_trans (gl_le _ _) hs
  induction d with
  | zero =>
    intro i k h1 h2
    obtain ⟨k, rfl⟩ : ∃ m, k = m + 1 := ⟨k - 1, by omega⟩
    rw [laws_FnRotationsGood.l1, if_neg (rnl _ _ (by omega))]
    exact j8_ok L b k (by omega)
  | succ d ih =>
    intro i k h1 h2
    obtain ⟨k, rfl⟩ : ∃ m, k = m + 1 := ⟨k - 1, by omega⟩
    have hi : i < (starts s c).length := by omega
    have e1 := rw_suc i (by omega)
    obtain ⟨j, g1, g2, g3⟩ := gl_get _ _ i hi
    have g1 : (starts s c).getD i 0 = (j : Int) := g1
    have hb := start_at s hp c hc j g2 g3
    have f := ih (i + 1) k (by omega) (by omega)
    rw [laws_FnRotationsGood.l1, if_pos (rl _ _ hi), if_pos (Int.natCast_nonneg i), if_pos (rl _ _ hi), rdg, g1, if_pos (Int.natCast_nonneg j), if_pos (rl _ _ g2), if_pos hb, e1]
    by_cases h0 : 0 < i
    · have hinc := gl_inc (fun i => upw (J s i) c) s.size (i - 1) i (by omega) hi
      have hinc2 : (starts s c).getD (i - 1) 0 < (j : Int) := by rw [← g1]; exact hinc
      rw [if_pos (by omega), l1_w i h0 (by omega), if_pos (Int.natCast_nonneg _), if_pos (rl _ _ (by omega)), rdg, if_neg (by omega)]
      exact f
    · rw [if_neg (by omega)]
      exact f
theorem j6_ok (s : ByteArray) (hs : s.size ≤ 40) (hp : okP s) (c : Int) (hc : 0 ≤ c ∧ c ≤ 40) (L : List Int) (b : Int) (m : Int) (hm : ((starts s c).length : Int) = m) (k : Nat) (hk : 6100 ≤ k) : laws_FnRotationsGood.j6 k s (starts s c) L b (rotOf L b) (rok L b) m = some true := by
  obtain ⟨k, rfl⟩ : ∃ m, k = m + 1 := ⟨k - 1, by omega⟩
  have hX : (starts s c).length ≤ 40 := Nat.le_trans (gl_le _ _) hs
  rw [laws_FnRotationsGood.j6, if_pos hm]
  exact l1_ok s hs hp c hc L b (starts s c).length 0 k (by omega) (by omega)
theorem j5_ok (s : ByteArray) (c : Int) (L : List Int) (b : Int) (k : Nat) (hk : 6200 ≤ k) : laws_FnRotationsGood.j5 k s c (if rrok s c = true then starts s c else []) (rrok s c) L b (rotOf L b) (rok L b) false = some true := by
  obtain ⟨k, rfl⟩ : ∃ m, k = m + 1 := ⟨k - 1, by omega⟩
  rw [laws_FnRotationsGood.j5, if_neg Bool.false_ne_true]
  by_cases h : rrok s c = true
  · have h2 := h
    unfold rrok at h2
    rw [Bool.and_eq_true, Bool.and_eq_true, Bool.and_eq_true, decide_eq_true_eq, decide_eq_true_eq, decide_eq_true_eq] at h2
    obtain ⟨⟨h3, h4⟩, hc⟩ := h2
    have hp := okP_of s h4
    have hu := cnt_b s 85 s.size
    have hd := cnt_b s 68 s.size
    have ew := many_w (cnt s 85 s.size) c (cnt s 68 s.size) (by omega) hc (by omega)
    have el := ld_cnt s hp c s.size (Nat.le_refl _)
    have hcs := count_starts s c hc
    rw [if_pos h, if_pos h, xCount_eq s (by omega) 85 k (by omega), Option.bind_some, xCount_eq s (by omega) 68 k (by omega), Option.bind_some, ew, ← el]
    by_cases g : ld s c s.size < 0
    · rw [if_pos g] at hcs
      rw [if_pos g]
      exact j6_ok s h3 hp c hc L b 0 hcs k (by omega)
    · rw [if_neg g] at hcs
      rw [if_neg g]
      exact j6_ok s h3 hp c hc L b _ hcs k (by omega)
  · rw [if_neg h]
    exact j8_ok L b k (by omega)
theorem nb (b : Bool) : ¬ (b != b) = true := by cases b <;> exact Bool.false_ne_true
theorem j4_ok (l1 : List Int) (hl : ∀ x ∈ l1, 0 ≤ x ∧ x ≤ 255) (k : Nat) (hk : 7000 ≤ k) : laws_FnRotationsGood.j4 k l1 = some true := by
  obtain ⟨k, rfl⟩ : ∃ m, k = m + 1 := ⟨k - 1, by omega⟩
  obtain ⟨s, c, hs, h1⟩ := ratio_tot l1 hl
  obtain ⟨L, b, hL, h2⟩ := drawRot_tot l1 hl
  have hr : (rotOf L b).length ≤ 1000 := by
    unfold rotOf
    split
    · rw [rot_len]; omega
    · exact Nat.zero_le _
  have hx : (if rrok s c = true then starts s c else []).length ≤ 1000 := by
    split
    · exact Nat.le_trans (gl_le _ _) (by omega)
    · exact Nat.zero_le _
  rw [laws_FnRotationsGood.j4, h1 k (by omega), Option.bind_some, rrI s (by omega) c k (by omega), Option.bind_some, rrS s c k (by omega), Option.bind_some, h2 k (by omega), Option.bind_some, rotOfI L b k (by omega), Option.bind_some, rotOfS L b k (by omega), Option.bind_some]
  rw [if_neg (nb _), same_self _ hx k (by omega), Option.bind_some, if_pos rfl, if_neg (nb _), same_self _ hr k (by omega), Option.bind_some]
  exact j5_ok s c L b k (by omega)
theorem l0_ok (l1 : List Int) (hl : ∀ x ∈ l1, 0 ≤ x ∧ x ≤ 255) (L : List Int) (hd : deg L = true) (d : Nat) : ∀ i k : Nat, i + d = L.length → 7001 + d ≤ k → laws_FnRotationsGood.l0 k l1 L (good L) (L.length : Int) (i : Int) = some true := by
  obtain ⟨⟨d1, d2⟩, d3⟩ := (deg_iff L).mp hd
  have hg : good L = gl (fun j => fst (rot L j)) L.length := by unfold good; rw [if_pos hd]
  have hgl := gl_le (fun j => fst (rot L j)) L.length
  induction d with
  | zero =>
    intro i k h1 h2
    obtain ⟨k, rfl⟩ : ∃ m, k = m + 1 := ⟨k - 1, by omega⟩
    rw [laws_FnRotationsGood.l0, if_neg (rnl _ _ (by omega))]
    exact j4_ok l1 hl k (by omega)
  | succ d ih =>
    intro i k h1 h2
    obtain ⟨k, rfl⟩ : ∃ m, k = m + 1 := ⟨k - 1, by omega⟩
    have hi : i < L.length := by omega
    have e1 := rw_suc i (by omega)
    have f := ih (i + 1) k (by omega) (by omega)
    have hr : rok L (i : Int) = true := by
      unfold rok
      rw [hd, decide_eq_true (Int.natCast_nonneg _), decide_eq_true (by omega)]; rfl
    have er : rotOf L (i : Int) = rot L i := by unfold rotOf; rw [if_pos hr, Int.toNat_natCast]
    have em : decide ((i : Int) ∈ good L) = fst (rot L i) := by
      rw [Bool.eq_iff_iff, decide_eq_true_eq, hg, gl_mem]
      exact ⟨fun h => h.2, fun h => ⟨hi, h⟩⟩
    rw [laws_FnRotationsGood.l0, if_pos (rl _ _ hi), rotOfI L _ k (by omega), Option.bind_some, hr, er, isFor (rot L i) (by rw [rot_deg]; exact hd) k (by omega), Option.bind_some, if_pos rfl, if_pos rfl, xHas_eq _ (by rw [hg]; omega) _ k (by omega), Option.bind_some, em, if_neg (nb _), e1]
    exact f
theorem len_w (n : Nat) (x : Int) (h : n ≤ 100) (hx : 0 ≤ x ∧ x ≤ 2000) : wrap64 ((n : Int) - x) = (n : Int) - x := w64 (by omega) (by omega)
theorem j1_ok (l1 : List Int) (hl : ∀ x ∈ l1, 0 ≤ x ∧ x ≤ 255) (L : List Int) (hd : deg L = true) (m : Int) (hm : ((good L).length : Int) = m) (k : Nat) (hk : 7100 ≤ k) : laws_FnRotationsGood.j1 k l1 L (good L) (excOf L) m = some true := by
  obtain ⟨k, rfl⟩ : ∃ m, k = m + 1 := ⟨k - 1, by omega⟩
  obtain ⟨k, rfl⟩ : ∃ m, k = m + 1 := ⟨k - 1, by omega⟩
  obtain ⟨⟨d1, d2⟩, d3⟩ := (deg_iff L).mp hd
  have hs := sum_b L d3
  have e : excOf L = (L.length : Int) - L.sum := by unfold excOf; rw [if_pos hd]; rfl
  rw [laws_FnRotationsGood.j1, if_pos hm, xSum_eq L d3 (by omega) (k + 1) (by omega), Option.bind_some, len_w L.length L.sum (by omega) (by omega), ← e]
  rw [Bool.eq_false_iff.mpr (show ¬ (excOf L != excOf L) = true by simp), laws_FnRotationsGood.j2, if_neg Bool.false_ne_true]
  exact l0_ok l1 hl L hd L.length 0 k (by omega) (by omega)
theorem j0_ok (l1 : List Int) (hl : ∀ x ∈ l1, 0 ≤ x ∧ x ≤ 255) (L : List Int) (k : Nat) (hk : 7200 ≤ k) : laws_FnRotationsGood.j0 k l1 L (good L) (deg L) (excOf L) false = some true := by
  obtain ⟨k, rfl⟩ : ∃ m, k = m + 1 := ⟨k - 1, by omega⟩
  rw [laws_FnRotationsGood.j0, if_neg Bool.false_ne_true]
  by_cases h : deg L = true
  · have e : excOf L = exc L := by unfold excOf; rw [if_pos h]
    have hc := count_good L h
    rw [if_pos h]
    by_cases g : excOf L < 0
    · rw [if_pos g]
      rw [e] at g
      rw [if_pos g] at hc
      exact j1_ok l1 hl L h 0 hc k (by omega)
    · rw [if_neg g]
      have g2 := g
      rw [e] at g2
      rw [if_neg g2, ← e] at hc
      exact j1_ok l1 hl L h _ hc k (by omega)
  · rw [if_neg h]
    exact j4_ok l1 hl k (by omega)
theorem u8_b {n : Int} (h : (Lit.int .u8 n).wf = true) : 0 ≤ n ∧ n ≤ 255 := by
  simp [Lit.wf, IntKind.min, IntKind.max, IntKind.signed, IntKind.bits] at h
  omega
theorem big_some (l0 l1 : List Int) : ∃ b, laws_big.f l0 l1 = some b := by
  unfold laws_big.f
  by_cases h : (l0.length : Int) > 1048576
  · exact ⟨true, if_pos h⟩
  · exact ⟨_, if_neg h⟩
theorem FnRotationsGood : laws_FnRotationsGood.Pure := by
  intro l0 l1 _ _ hw0 _ _ hw1
  have hl0 : ∀ x ∈ l0, 0 ≤ x ∧ x ≤ 255 := fun x hx => u8_b (hw0 x hx)
  have hl1 : ∀ x ∈ l1, 0 ≤ x ∧ x ≤ 255 := fun x hx => u8_b (hw1 x hx)
  obtain ⟨b, hb⟩ := big_some l0 l1
  cases b with
  | true =>
    refine ⟨0, ?_⟩
    unfold laws_FnRotationsGood.f
    rw [hb, Option.bind_some, if_pos rfl]
  | false =>
    obtain ⟨L, hL, hd⟩ := drawGood_tot l0 hl0
    have hg : (good L).length ≤ 1000 := by
      unfold good
      split
      · exact Nat.le_trans (gl_le _ _) (by omega)
      · exact Nat.zero_le _
    refine ⟨8000, ?_⟩
    unfold laws_FnRotationsGood.f
    rw [hb, Option.bind_some, if_neg Bool.false_ne_true, hd 8000 (by omega), Option.bind_some, goodI L 8000 (by omega), Option.bind_some, goodS L 8000 (by omega), Option.bind_some, excOfI L 8000 (by omega), Option.bind_some, excOfS L 8000 (by omega), Option.bind_some]
    rw [if_neg (nb _), same_self _ hg 8000 (by omega), Option.bind_some, if_pos rfl, if_neg (nb _), if_pos rfl, isDeg_eq L 8000 (by omega), Option.bind_some, if_neg (nb _), Option.bind_some, isDegS L 8000 (by omega), Option.bind_some, if_neg (nb _), Bool.eq_false_iff.mpr (nb _)]
    exact j0_ok l1 hl1 L 8000 (by omega)

end Go.Proofs.YtfmoaonnknpobaaDoor.PuqFnRotationsGood
namespace Go.Proofs.YtfmoaonnknpobaaDoor.Pure
open Go.Proofs.YtfmoaonnknpobaaDoor.QFnRotationsGood
theorem FnRotationsGood : laws_FnRotationsGood.Pure := Go.Proofs.YtfmoaonnknpobaaDoor.PuqFnRotationsGood.FnRotationsGood
end Go.Proofs.YtfmoaonnknpobaaDoor.Pure
