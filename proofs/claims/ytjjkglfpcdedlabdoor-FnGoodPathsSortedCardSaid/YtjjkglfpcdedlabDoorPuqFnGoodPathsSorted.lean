/- Good closed paths are counted by peaks, heights, returns, first runs and areas as the reference counts them, each time all of them, and the area index of a drawn path is in its range; for all arguments of no more than 2^47 bytes. -/
import Derived.Test.YtjjkglfpcdedlabDoorQFnGoodPathsSortedx16
import Derived.Test.YtjjkglfpcdedlabDoorZpl
namespace Go.Proofs.YtjjkglfpcdedlabDoor.PuqFnGoodPathsSorted
open Go.RowKit Go.Proofs.YtjjkglfpcdedlabDoor.QFnGoodPathsSorted Go.Proofs.YtjjkglfpcdedlabDoorW.PrintWords Go.Proofs.YtjjkglfpcdedlabDoorW.PrintLast Go.Proofs.YtjjkglfpcdedlabDoorPl
set_option linter.unusedVariables false

theorem paGood_l (s : ByteArray) (hn : s.size ≤ 1048576) (d : Nat) : ∀ (k i : Nat), i + d = s.size → d < k → spec_paGood.l0 k s (i : Int) = some ((List.range' i d).all fun j => decide (bt s (j : Int) = 85 ∨ bt s (j : Int) = 68)) := by
  induction d with
  | zero =>
    intro k i h1 h2
    obtain ⟨k, rfl⟩ : ∃ m, k = m + 1 := ⟨k - 1, by omega⟩
    simp only [spec_paGood.l0]
    rw [if_neg (by omega)]
    rfl
  | succ d ih =>
    intro k i h1 h2
    obtain ⟨k, rfl⟩ : ∃ m, k = m + 1 := ⟨k - 1, by omega⟩
    simp only [spec_paGood.l0]
    rw [if_pos (by omega), if_pos (by omega), w64 (by omega) (by omega), show ((i : Int) + 1) = ((i + 1 : Nat) : Int) by omega, ih k (i + 1) (by omega) (by omega), List.range'_succ, List.all_cons]
    by_cases h' : bt s (i : Int) = 85
    · rw [if_pos h', decide_eq_true (.inl h'), Bool.true_and]
    · rw [if_neg h']
      by_cases h : bt s (i : Int) = 68
      · rw [if_pos h, decide_eq_true (.inr h), Bool.true_and]
      · rw [if_neg h, decide_eq_false (fun H => H.elim h' h), Bool.false_and]

theorem paGood_eq (s : ByteArray) (k : Nat) (hk : 41 < k) : spec_paGood.f k s = some (decide (s.size ≤ 40) && isP s) := by
  unfold spec_paGood.f
  by_cases h : s.size ≤ 40
  · rw [if_neg (by omega)]
    have := paGood_l s (by omega) s.size k 0 (by omega) (by omega)
    rw [show ((0 : Nat) : Int) = 0 from rfl] at this
    rw [this]
    congr 1
    rw [Bool.eq_iff_iff, List.all_eq_true]
    simp only [decide_eq_true_eq, Bool.and_eq_true]
    rw [all_of_bt]
    exact ⟨fun H => ⟨h, fun i hi => H i (by rw [List.mem_range'_1]; omega)⟩, fun H i hi => H.2 i (by rw [List.mem_range'_1] at hi; omega)⟩
  · rw [if_pos (by omega)]
    simp [h]

theorem isPath_eq (s : ByteArray) (hs : s.size ≤ 140737488351232) : impl_IsPath.f s = some (decide (s.size ≤ 40) && isP s) := by
  unfold impl_IsPath.f
  by_cases h : s.size ≤ 40
  · rw [if_pos (by omega)]
    unfold strings_Trim.f
    rw [if_pos (by omega), if_pos (by decide), if_pos (by decide)]
    simp only [Option.bind_some, Option.some.injEq]
    rw [trim_eq]
    simp only [h, decide_true, Bool.true_and]
    unfold isP
    congr 1
    funext b
    rw [Bool.eq_iff_iff]
    simp
  · rw [if_neg (by omega)]
    simp [h]

theorem heights_eq (s : ByteArray) (h40 : s.size ≤ 40) (k : Nat) (hk : s.size < k) : impl_heights.f k s = some (hts s s.size) := by
  unfold impl_heights.f
  have := (loop_range (fun k (st : List Int) i => impl_heights.l0 k s st (s.size : Int) i) s.size (fun st i => st ++ [hgt s (i + 1)]) id (fun i st => st = hts s i)
    (fun k i st hi hI => by
      subst hI
      refine ⟨?_, (hts_succ s i).symm⟩
      have hb := hgt_bound s i
      simp only [impl_heights.l0]
      rw [if_pos (by omega), if_pos (by omega), if_pos (by omega), rd_hts s i i (Nat.le_refl _), w64 (x := (i : Int) + 1) (by omega) (by omega)]
      by_cases h : bt s (i : Int) = 68
      · rw [if_pos h, if_pos (by rw [hts_length]; omega), if_pos (by rw [hts_length]; omega), w64 (by omega) (by omega)]
        simp only [hgt, if_pos h]; rfl
      · rw [if_neg h, if_pos (by rw [hts_length]; omega), if_pos (by rw [hts_length]; omega), w64 (by omega) (by omega)]
        simp only [hgt, if_neg h]; rfl)
    (fun k st hI => by
      simp only [impl_heights.l0]
      rw [if_neg (by omega)]; rfl) k [0] (hts_zero s).symm hk)
  rw [this.1]
  exact congrArg some this.2

theorem paHeights_eq (s : ByteArray) (h40 : s.size ≤ 40) (k : Nat) (hk : s.size < k) : spec_paHeights.f k s = some (hts s s.size) := by
  unfold spec_paHeights.f
  have := (loop_range (fun k (st : List Int) i => spec_paHeights.l0 k s st i) s.size (fun st i => st ++ [hgt s (i + 1)]) id (fun i st => st = hts s i)
    (fun k i st hi hI => by
      subst hI
      refine ⟨?_, (hts_succ s i).symm⟩
      have hb := hgt_bound s i
      simp only [spec_paHeights.l0]
      rw [if_pos (by omega), if_pos (by omega), if_pos (by rw [hts_length]; omega), rd_hts s i i (Nat.le_refl _), w64 (x := (i : Int) + 1) (by omega) (by omega)]
      by_cases h : bt s (i : Int) = 68
      · rw [if_pos h, if_pos (by rw [hts_length]; omega), w64 (by omega) (by omega)]
        simp only [hgt, if_pos h]; rfl
      · rw [if_neg h, if_pos (by rw [hts_length]; omega), w64 (by omega) (by omega)]
        simp only [hgt, if_neg h]; rfl)
    (fun k st hI => by
      simp only [spec_paHeights.l0]
      rw [if_neg (by omega)]; rfl) k [0] (hts_zero s).symm hk)
  rw [this.1]
  exact congrArg some this.2

/-- The sum of the heights, the least height. -/
def stepS (s : ByteArray) (c : Int) (i : Nat) : Int := c + hgt s i
def stepL (s : ByteArray) (c : Int) (i : Nat) : Int := if c < hgt s i then c else hgt s i
def tot (s : ByteArray) : Int := (List.range (s.size + 1)).foldl (stepS s) 0
def low (s : ByteArray) : Int := (List.range (s.size + 1)).foldl (stepL s) 0

theorem impl_sum (s : ByteArray) (h40 : s.size ≤ 40) (k : Nat) (hk : s.size + 1 < k) : impl_AreaOfPath.l0 k 0 (hts s s.size) ((hts s s.size).length : Int) 0 = some (tot s, true) ∧ -2000 ≤ tot s ∧ tot s ≤ 2000 := by
  have := loop_range (fun k (st : Int) i => impl_AreaOfPath.l0 k st (hts s s.size) ((hts s s.size).length : Int) i) (s.size + 1) (stepS s) (fun c => (c, true)) (fun i c => -(41 * (i : Int)) ≤ c ∧ c ≤ 41 * i)
    (fun k i c hi hI => by
      have hb := hgt_bound s i
      constructor
      · have e1 := rd_hts s s.size i (by omega)
        have e3 : wrap64 ((i : Int) + 1) = ((i + 1 : Nat) : Int) := by rw [w64 (by omega) (by omega)]; omega
        have e4 : wrap64 (c + hgt s i) = c + hgt s i := w64 (by omega) (by omega)
        simp only [impl_AreaOfPath.l0, hts_length, e1, e3, e4, stepS]
        repeat rw [if_pos (by omega)]
      · unfold stepS; omega)
    (fun k c hI => by simp only [impl_AreaOfPath.l0, hts_length]; rw [if_neg (by omega)]) k 0 (by omega) hk
  refine ⟨this.1, ?_⟩
  have h2 := this.2
  unfold tot; omega

theorem spec_sum (s : ByteArray) (h40 : s.size ≤ 40) (k : Nat) (hk : s.size + 1 < k) : spec_AreaIndex.l0 k s 0 (hts s s.size) ((hts s s.size).length : Int) 0 = some (wrap64 (Int.tdiv (wrap64 (tot s - (wrap64 ((s.size : Int) / 2)))) 2), true) := by
  exact (loop_range (fun k (st : Int) i => spec_AreaIndex.l0 k s st (hts s s.size) ((hts s s.size).length : Int) i) (s.size + 1) (stepS s) (fun c => (wrap64 (Int.tdiv (wrap64 (c - (wrap64 ((s.size : Int) / 2)))) 2), true)) (fun i c => -(41 * (i : Int)) ≤ c ∧ c ≤ 41 * i)
    (fun k i c hi hI => by
      have hb := hgt_bound s i
      constructor
      · have e1 := rd_hts s s.size i (by omega)
        have e3 : wrap64 ((i : Int) + 1) = ((i + 1 : Nat) : Int) := by rw [w64 (by omega) (by omega)]; omega
        have e4 : wrap64 (c + hgt s i) = c + hgt s i := w64 (by omega) (by omega)
        simp only [spec_AreaIndex.l0, hts_length, e1, e3, e4, stepS]
        repeat rw [if_pos (by omega)]
      · unfold stepS; omega)
    (fun k c hI => by simp only [spec_AreaIndex.l0, hts_length]; rw [if_neg (by omega)]) k 0 (by omega) hk).1

theorem spec_low (s : ByteArray) (h40 : s.size ≤ 40) (k : Nat) (hk : s.size + 1 < k) : spec_paLow.l0 k 0 (hts s s.size) ((hts s s.size).length : Int) 0 = some (low s) ∧ low s ≤ 0 := by
  have := loop_range (fun k (st : Int) i => spec_paLow.l0 k st (hts s s.size) ((hts s s.size).length : Int) i) (s.size + 1) (stepL s) id (fun i c => c ≤ 0)
    (fun k i c hi hI => by
      constructor
      · have e1 := rd_hts s s.size i (by omega)
        have e3 : wrap64 ((i : Int) + 1) = ((i + 1 : Nat) : Int) := by rw [w64 (by omega) (by omega)]; omega
        have e5 : spec_l1Least.f c (hgt s i) = some (stepL s c i) := by unfold spec_l1Least.f stepL; split <;> rfl
        simp only [spec_paLow.l0, hts_length, e1, e3, e5, Option.bind_some]
        repeat rw [if_pos (by omega)]
      · unfold stepL; split <;> omega)
    (fun k c hI => by simp only [spec_paLow.l0, hts_length]; rw [if_neg (by omega)]; rfl) k 0 (by omega) hk
  exact ⟨this.1, this.2⟩

theorem impl_low (s : ByteArray) (h40 : s.size ≤ 40) (k : Nat) (hk : s.size < k) : slices_Min_int_int.f k (hts s s.size) = some (low s) := by
  unfold slices_Min_int_int.f
  rw [if_neg (by rw [hts_length]; omega), if_pos (by rw [hts_length]; omega), show rd (hts s s.size) 0 = hgt s 0 from rd_hts s s.size 0 (by omega)]
  have := (loop_range (fun k (st : Int) i => slices_Min_int_int.l0 k (hts s s.size) st (i + 1)) s.size (fun c i => stepL s c (i + 1)) id (fun _ _ => True)
    (fun k i c hi hI => by
      refine ⟨?_, trivial⟩
      have e1 := rd_hts s s.size (i + 1) (by omega)
      have e0 : ((i : Int) + 1) = ((i + 1 : Nat) : Int) := by omega
      have e3 : wrap64 (((i + 1 : Nat) : Int) + 1) = ((i + 1 : Nat) : Int) + 1 := w64 (by omega) (by omega)
      have e5 : mn c (hgt s (i + 1)) = stepL s c (i + 1) := by unfold mn stepL; split <;> split <;> omega
      simp only [slices_Min_int_int.l0, hts_length, e0, e1, e3, e5]
      repeat rw [if_pos (by omega)])
    (fun k c hI => by simp only [slices_Min_int_int.l0, hts_length]; rw [if_neg (by omega)]; rfl) k (hgt s 0) trivial hk).1
  rw [show ((0 : Int) + 1) = 1 from rfl] at this
  rw [this, low, List.range_succ_eq_map, List.foldl_cons, List.foldl_map]
  have h0 : stepL s 0 0 = hgt s 0 := by unfold stepL; rfl
  rw [h0]; rfl


/-! ### The path part: AreaIndex and AreaOfPath -/
def AIv (s : ByteArray) : Int × Bool := if (s.size ≤ 40 ∧ isP s = true) ∧ ¬ low s < 0 ∧ hgt s s.size = 0 then (wrap64 (Int.tdiv (wrap64 (tot s - (wrap64 ((s.size : Int) / 2)))) 2), true) else (0, false)
theorem ai_both (s : ByteArray) (hs : s.size ≤ 140737488351232) : impl_AreaIndex.f 100 s = some (AIv s) ∧ spec_AreaIndex.f 100 s = some (AIv s) := by
  unfold spec_AreaIndex.f impl_AreaIndex.f AIv
  rw [paGood_eq s 100 (by omega), isPath_eq s hs]
  by_cases h : s.size ≤ 40 ∧ isP s = true
  · rw [show (decide (s.size ≤ 40) && isP s) = true by simp [h]]
    simp only [Option.bind_some, if_true]
    unfold spec_paLow.f impl_isGood.f spec_paEnd.f impl_end.f impl_AreaOfPath.f
    rw [isPath_eq s hs, show (decide (s.size ≤ 40) && isP s) = true by simp [h], paHeights_eq s h.1 100 (by omega), heights_eq s h.1 100 (by omega)]
    simp only [Option.bind_some, if_true]
    obtain ⟨hl1, hl2⟩ := spec_low s h.1 100 (by omega)
    obtain ⟨hs1, hs2⟩ := impl_sum s h.1 100 (by omega)
    rw [hl1, impl_low s h.1 100 (by omega), hs1]
    simp only [Option.bind_some, hts_length]
    rw [if_pos (show 0 ≤ (s.size : Int) by omega), if_pos (show (s.size : Int) < ((s.size + 1 : Nat) : Int) by omega), rd_hts s s.size s.size (by omega)]
    simp only [Option.bind_some]
    have hj : spec_AreaIndex.j0 100 s false = some (wrap64 (Int.tdiv (wrap64 (tot s - (wrap64 ((s.size : Int) / 2)))) 2), true) := by
      simp only [spec_AreaIndex.j0]
      rw [if_neg (by decide), paHeights_eq s h.1 99 (by omega)]
      simp only [Option.bind_some]
      exact spec_sum s h.1 99 (by omega)
    have hj1 : spec_AreaIndex.j0 100 s true = some (0, false) := by simp only [spec_AreaIndex.j0]; rw [if_pos trivial]
    by_cases h1 : low s < 0
    · have h2 : (low s == 0) = false := by simp; omega
      have e : (if (s.size ≤ 40 ∧ isP s = true) ∧ ¬ low s < 0 ∧ hgt s s.size = 0 then (wrap64 (Int.tdiv (wrap64 (tot s - (wrap64 ((s.size : Int) / 2)))) 2), true) else ((0 : Int), false)) = (0, false) := if_neg (fun q => q.2.1 h1)
      rw [e]
      simp only [if_pos h1, h2, hj1]; simp
    · have h2 : (low s == 0) = true := by simp; omega
      simp only [if_neg h1, h2, if_true]
      by_cases h3 : hgt s s.size = 0
      · have e : (if (s.size ≤ 40 ∧ isP s = true) ∧ ¬ low s < 0 ∧ hgt s s.size = 0 then (wrap64 (Int.tdiv (wrap64 (tot s - (wrap64 ((s.size : Int) / 2)))) 2), true) else ((0 : Int), false)) = (wrap64 (Int.tdiv (wrap64 (tot s - (wrap64 ((s.size : Int) / 2)))) 2), true) := if_pos ⟨h, h1, h3⟩
        rw [e]
        simp only [h3, if_true, show ((0 : Int) != 0) = false from rfl, hj]; simp
      · have h4 : (hgt s s.size != 0) = true := by simpa using h3
        have e : (if (s.size ≤ 40 ∧ isP s = true) ∧ ¬ low s < 0 ∧ hgt s s.size = 0 then (wrap64 (Int.tdiv (wrap64 (tot s - (wrap64 ((s.size : Int) / 2)))) 2), true) else ((0 : Int), false)) = (0, false) := if_neg (fun q => h3 q.2.2)
        rw [e]
        simp only [if_neg h3, h4, hj1]; simp
  · rw [show (decide (s.size ≤ 40) && isP s) = false by
      cases hh : (decide (s.size ≤ 40) && isP s) with
      | false => rfl
      | true => exact absurd (by simpa using hh) h, if_neg (fun q => h q.1)]
    simp [spec_AreaIndex.j0]
theorem area_of (s : ByteArray) (hs : s.size ≤ 140737488351232) (h : s.size ≤ 40 ∧ isP s = true) : impl_AreaOfPath.f 100 s = some (tot s, true) := by
  unfold impl_AreaOfPath.f
  rw [isPath_eq s hs, show (decide (s.size ≤ 40) && isP s) = true by simp [h]]
  simp only [Option.bind_some, if_true]
  rw [heights_eq s h.1 100 (by omega)]
  simp only [Option.bind_some]
  exact (impl_sum s h.1 100 (by omega)).1
/-- Sums of heights. -/
def T (s : ByteArray) : Nat → Int
  | 0 => 0
  | i + 1 => T s i + hgt s i
theorem tot_T (s : ByteArray) : ∀ n : Nat, (List.range n).foldl (stepS s) 0 = T s n
  | 0 => rfl
  | n + 1 => by rw [List.range_succ, List.foldl_append, tot_T s n]; rfl
theorem hgt_par (s : ByteArray) : ∀ i : Nat, (hgt s i - i) % 2 = 0
  | 0 => rfl
  | i + 1 => by have := hgt_par s i; unfold hgt; split <;> omega
theorem T_par (s : ByteArray) : ∀ i : Nat, (T s i - ((i / 2 : Nat) : Int)) % 2 = 0
  | 0 => rfl
  | i + 1 => by
    have h1 := T_par s i
    have h2 := hgt_par s i
    show (T s i + hgt s i - (((i + 1) / 2 : Nat) : Int)) % 2 = 0
    obtain ⟨m, hm | hm⟩ : ∃ m : Nat, i = 2 * m ∨ i = 2 * m + 1 := ⟨i / 2, by omega⟩
    · rw [show (i + 1) / 2 = m by omega]
      rw [show i / 2 = m by omega] at h1
      omega
    · rw [show (i + 1) / 2 = m + 1 by omega]
      rw [show i / 2 = m by omega] at h1
      omega
theorem low_le (s : ByteArray) : ∀ n : Nat, (List.range n).foldl (stepL s) 0 ≤ 0 ∧ ∀ j, j < n → (List.range n).foldl (stepL s) 0 ≤ hgt s j
  | 0 => ⟨Int.le_refl _, fun j h => absurd h (Nat.not_lt_zero _)⟩
  | n + 1 => by
    have ih := low_le s n
    rw [List.range_succ, List.foldl_append]
    show stepL s ((List.range n).foldl (stepL s) 0) n ≤ 0 ∧ ∀ j, j < n + 1 → stepL s ((List.range n).foldl (stepL s) 0) n ≤ hgt s j
    have e : stepL s ((List.range n).foldl (stepL s) 0) n ≤ (List.range n).foldl (stepL s) 0 ∧ stepL s ((List.range n).foldl (stepL s) 0) n ≤ hgt s n := by unfold stepL; split <;> omega
    refine ⟨by omega, fun j hj => ?_⟩
    by_cases c : j = n
    · subst c; exact e.2
    · have := ih.2 j (by omega); omega
theorem T_ge (s : ByteArray) (n : Nat) (h : ∀ j, j ≤ n → 0 ≤ hgt s j) : ∀ i : Nat, i ≤ n + 1 → ((i / 2 : Nat) : Int) ≤ T s i
  | 0, _ => Int.le_refl _
  | i + 1, hi => by
    have h1 := T_ge s n h i (by omega)
    have h2 := hgt_par s i
    have h3 := h i (by omega)
    show (((i + 1) / 2 : Nat) : Int) ≤ T s i + hgt s i
    omega
theorem hgt_back (s : ByteArray) (j : Nat) : ∀ d : Nat, hgt s j ≤ hgt s (j + d) + d
  | 0 => by simp
  | d + 1 => by
    have h := hgt_back s j d
    have e : hgt s (j + (d + 1)) = hgt s (j + d) + (if bt s ((j + d : Nat) : Int) = 68 then -1 else 1) := rfl
    rw [e]
    split <;> omega
def U (n : Nat) : Nat → Int
  | 0 => 0
  | i + 1 => U n i + (if i ≤ n - i then (i : Int) else ((n - i : Nat) : Int))
theorem T_le (s : ByteArray) (n : Nat) (h0 : hgt s n = 0) : ∀ i : Nat, i ≤ n + 1 → T s i ≤ U n i
  | 0, _ => Int.le_refl _
  | i + 1, hi => by
    have h1 := T_le s n h0 i (by omega)
    have h2 := (hgt_bound s i).2
    have h3 := hgt_back s i (n - i)
    rw [show i + (n - i) = n by omega, h0] at h3
    show T s i + hgt s i ≤ U n i + (if i ≤ n - i then (i : Int) else ((n - i : Nat) : Int))
    split <;> omega
theorem U_val : ∀ k : Nat, k < 21 → U (2 * k) (2 * k + 1) = ((k * k : Nat) : Int) ∧ 2 * wrap64 (Int.tdiv (wrap64 (wrap64 (k : Int) * wrap64 (wrap64 (k : Int) - 1))) 2) = ((k * k : Nat) : Int) - k ∧ k * k ≤ 400 := by decide +kernel
theorem area_facts (s : ByteArray) (h : s.size ≤ 40) (h1 : ¬ low s < 0) (h2 : hgt s s.size = 0) : ∃ k : Nat, k < 21 ∧ s.size = 2 * k ∧ (tot s - k) % 2 = 0 ∧ (k : Int) ≤ tot s ∧ tot s ≤ ((k * k : Nat) : Int) := by
  have hp := hgt_par s s.size
  rw [h2] at hp
  obtain ⟨k, hk⟩ : ∃ k : Nat, s.size = 2 * k := ⟨s.size / 2, by omega⟩
  have hl := low_le s (s.size + 1)
  have hnn : ∀ j, j ≤ s.size → 0 ≤ hgt s j := fun j hj => by
    have := hl.2 j (by omega)
    have h1' : ¬ (List.range (s.size + 1)).foldl (stepL s) 0 < 0 := h1
    omega
  have e : tot s = T s (s.size + 1) := tot_T s (s.size + 1)
  have a1 := T_par s (s.size + 1)
  have a2 := T_ge s s.size hnn (s.size + 1) (Nat.le_refl _)
  have a3 := T_le s s.size h2 (s.size + 1) (Nat.le_refl _)
  have a4 := (U_val k (by omega)).1
  have e9 : U s.size (s.size + 1) = ((k * k : Nat) : Int) := by rw [hk]; exact a4
  rw [e9] at a3
  exact ⟨k, by omega, hk, by rw [e]; omega, by rw [e]; omega, by rw [e]; exact a3⟩
theorem idx_facts (n : Nat) (hn : n < 21) (t : Int) (h1 : (t - n) % 2 = 0) (h2 : (n : Int) ≤ t) (h3 : t ≤ ((n * n : Nat) : Int)) (h4 : n * n ≤ 400) : ∃ i : Int, wrap64 (Int.tdiv (wrap64 (t - wrap64 (n : Int))) 2) = i ∧ wrap64 (wrap64 (2 * i) + wrap64 (n : Int)) = t ∧ 2 * i = t - n ∧ 0 ≤ i := by
  have e2 : wrap64 (n : Int) = (n : Int) := w64 (by omega) (by omega)
  have e3 : wrap64 (t - (n : Int)) = t - (n : Int) := w64 (by omega) (by omega)
  have e4 : Int.tdiv (t - (n : Int)) 2 = (t - (n : Int)) / 2 := Int.tdiv_eq_ediv_of_nonneg (by omega)
  rw [e2, e3, e4]
  clear e2 e3 e4
  obtain ⟨i, hi⟩ : ∃ i : Int, t - n = 2 * i := ⟨(t - n) / 2, by omega⟩
  have e5 : (t - (n : Int)) / 2 = i := by omega
  rw [e5]
  refine ⟨i, w64 (by omega) (by omega), ?_, by omega, by omega⟩
  rw [w64 (x := 2 * i) (by omega) (by omega), w64 (by omega) (by omega)]
  omega
theorem half_n {a n : Nat} (h : a = 2 * n) : ((a : Int) / 2) = (n : Int) := by omega
theorem fuel_n {k0 k : Nat} (h : k0 + 200 ≤ k + 2) : 100 ≤ k := by omega
theorem neg_n {i : Int} (h : 0 ≤ i) : ¬ i < 0 := by omega
theorem le_n {i x t : Int} {n m : Nat} (h1 : 2 * i = t - n) (h2 : t ≤ (m : Int)) (h3 : 2 * x = (m : Int) - n) : ¬ i > x := by omega
theorem path_part (s : ByteArray) (hs : s.size ≤ 140737488351232) (x1 : List Int) (hd : QFnGoodPathsSorted.Ev (fun k => spec_DrawAreaIndex.f k x1) s) : QFnGoodPathsSorted.Ev (fun k => laws_FnGoodPathsSorted.j6 k x1) true := by
  obtain ⟨k0, hd⟩ := hd
  have ha := ai_both s hs
  have hi : ∀ k, 100 ≤ k → impl_AreaIndex.f k s = some (AIv s) := fun k hk => up' (fun k => impl_AreaIndex.f k s) (fun k => impl_AreaIndex.mono s k) ha.1 k hk
  have hp : ∀ k, 100 ≤ k → spec_AreaIndex.f k s = some (AIv s) := fun k hk => up' (fun k => spec_AreaIndex.f k s) (fun k => spec_AreaIndex.mono s k) ha.2 k hk
  have hP : (s.size ≤ 40 ∧ isP s = true) → ∀ k, 100 ≤ k → impl_AreaOfPath.f k s = some (tot s, true) := fun h k hk => up' (fun k => impl_AreaOfPath.f k s) (fun k => impl_AreaOfPath.mono s k) (area_of s hs h) k hk
  refine ⟨k0 + 200, fun k hk => ?_⟩
  show laws_FnGoodPathsSorted.j6 k x1 = some true
  obtain ⟨k, rfl⟩ : ∃ m, k = m + 2 := ⟨k - 2, by omega⟩
  simp only [laws_FnGoodPathsSorted.j6]
  rw [show spec_DrawAreaIndex.f (k + 1) x1 = some s from hd _ (by omega)]
  simp only [Option.bind_some]
  rw [hi _ (by omega), hp _ (by omega)]
  simp only [Option.bind_some]
  rw [show ((AIv s).2 != (AIv s).2) = false by simp, show ((AIv s).1 != (AIv s).1) = false by simp, if_neg (by decide)]
  simp only [laws_FnGoodPathsSorted.j7]
  rw [if_neg (by decide)]
  by_cases h : (s.size ≤ 40 ∧ isP s = true) ∧ ¬ low s < 0 ∧ hgt s s.size = 0
  · have e : AIv s = (wrap64 (Int.tdiv (wrap64 (tot s - (wrap64 ((s.size : Int) / 2)))) 2), true) := if_pos h
    obtain ⟨n, n1, n2, n3, n4, n5⟩ := area_facts s h.1.1 h.2.1 h.2.2
    obtain ⟨_, u2, u3⟩ := U_val n n1
    have e1 : ((s.size : Int) / 2) = (n : Int) := half_n n2
    have hk2 : 100 ≤ k := fuel_n hk
    have hA : impl_AreaOfPath.f k s = some (tot s, true) := hP h.1 k hk2
    obtain ⟨i, i1, i2, i3, i4⟩ := idx_facts n n1 (tot s) n3 n4 n5 u3
    rw [e1, i1] at e
    rw [e]
    simp only [if_true, e1, i2]
    rw [hA]
    simp only [Option.bind_some, if_true]
    obtain ⟨x, hx⟩ : ∃ x, x = wrap64 (Int.tdiv (wrap64 (wrap64 (n : Int) * wrap64 (wrap64 (n : Int) - 1))) 2) := ⟨_, rfl⟩
    rw [← hx] at u2 ⊢
    clear hx i1 i2 hA e
    have q1 : ¬ i < 0 := neg_n i4
    have q2 : ¬ i > x := le_n i3 n5 u2
    rw [if_neg q1, if_neg q2]
  · have e : AIv s = (0, false) := if_neg h
    rw [e]
    rfl

/-! ### The draws tell something, whatever the code -/
def TotS {α : Type} (F : Int → Int → Option (α × Int × Int)) (c : Int) (p : α → Prop) : Prop := ∀ s1 s2 : Int, 0 ≤ s1 → s1 ≤ 1000000 → ∃ r t1 t2, F s1 s2 = some (r, t1, t2) ∧ p r ∧ s1 ≤ t1 ∧ t1 ≤ s1 + c
theorem u64_b (y : Int) : 0 ≤ IntKind.u64.wrap y ∧ IntKind.u64.wrap y < 18446744073709551616 := by
  simp [IntKind.wrap, IntKind.bits, IntKind.signed]
  omega
theorem byte_b (y : Int) (h : 0 ≤ y ∧ y < 18446744073709551616) : 0 ≤ wrap64 (bits .and .u64 (y / 1099511627776) 255) ∧ wrap64 (bits .and .u64 (y / 1099511627776) 255) ≤ 255 := by
  have e : bits .and .u64 (y / 1099511627776) 255 = (y / 1099511627776) % 256 := bits_mask .u64 24 (by decide) (fun n a b => by
    simp [IntKind.wrap, IntKind.bits, IntKind.signed]
    omega) 8 (by decide) _ (by omega) (by omega)
  rw [e, w64 (by omega) (by omega)]
  omega
theorem pre_w (n : Nat) (h : n ≤ 9) : wrap64 (((n + 1 : Nat) : Int) - 1) = (n : Int) := by rw [w64 (by omega) (by omega)]; omega
theorem suc_w (i : Nat) (h : i ≤ 1000) : wrap64 ((i : Int) + 1) = ((i + 1 : Nat) : Int) := by rw [w64 (by omega) (by omega)]; omega
theorem pl_w (r : Int) (h0 : 0 ≤ r) (h1 : r < 2) : wrap64 (40 + r) = 40 + r := w64 (by omega) (by omega)
theorem size5 : ((⟨#[85, 68, 88, 32, 117]⟩ : ByteArray).size : Int) = 5 := rfl
section
variable (l : List Int) (hl : ∀ x ∈ l, 0 ≤ x ∧ x ≤ 255)
include hl
theorem next_tot : TotS (fun s1 s2 => spec_l1Cur_next.f l s1 s2) 1 (fun r => 0 ≤ r ∧ r ≤ 255) := by
  intro s1 s2 h0 h1
  have e1 : wrap64 (s1 + 1) = s1 + 1 := w64 (by omega) (by omega)
  unfold spec_l1Cur_next.f
  simp only [e1]
  by_cases c : s1 < (l.length : Int)
  · rw [if_pos c, if_pos h0]
    obtain ⟨i, rfl⟩ := Int.eq_ofNat_of_zero_le h0
    have hi : i < l.length := by omega
    have hx := hl l[i] (List.getElem_mem hi)
    have e2 : rd l (i : Int) = l[i] := rd_nat l i hi
    have e3 : wrap64 l[i] = l[i] := w64 (by omega) (by omega)
    rw [if_pos (show (i : Int) + 1 ≤ (l.length : Int) by omega), e2, e3]
    exact ⟨_, _, _, rfl, hx, by omega, by omega⟩
  · rw [if_neg c]
    have c2 : ¬ s1 + 1 ≤ (l.length : Int) := by omega
    rw [if_neg c2]
    refine ⟨_, _, _, rfl, ?_, by omega, by omega⟩
    have hw := u64_b (IntKind.u64.wrap (IntKind.u64.wrap (s2 * 6364136223846793005)) + 1442695040888963407)
    generalize IntKind.u64.wrap (IntKind.u64.wrap (IntKind.u64.wrap (s2 * 6364136223846793005)) + 1442695040888963407) = y at hw ⊢
    exact byte_b y hw
theorem pick_tot (n : Int) (hn : n ≤ 200) : TotS (fun s1 s2 => spec_l1Cur_pick.f l s1 s2 n) 1 (fun r => 0 ≤ r ∧ (0 < n → r < n)) := by
  intro s1 s2 h0 h1
  show ∃ r t1 t2, spec_l1Cur_pick.f l s1 s2 n = some (r, t1, t2) ∧ _
  unfold spec_l1Cur_pick.f
  by_cases c : n ≤ 1
  · rw [if_pos c]
    exact ⟨0, s1, s2, rfl, ⟨Int.le_refl _, fun h => by omega⟩, Int.le_refl _, by omega⟩
  · obtain ⟨r, t1, t2, e, ⟨p0, p1⟩, q0, q1⟩ := next_tot l hl s1 s2 h0 h1
    rw [if_neg c, show spec_l1Cur_next.f l s1 s2 = _ from e]
    simp only [Option.bind_some]
    rw [if_neg (show ¬ n > 200 by omega), if_neg (show ¬ n = 0 by omega)]
    refine ⟨_, _, _, rfl, ⟨?_, fun _ => ?_⟩, q0, q1⟩
    · rw [Int.tmod_eq_emod_of_nonneg p0]; exact Int.emod_nonneg _ (by omega)
    · rw [Int.tmod_eq_emod_of_nonneg p0]; exact Int.emod_lt_of_pos _ (by omega)
theorem one_tot (n : Int) (hn : n ≤ 200) : TotS (fun s1 s2 => spec_l1Cur_one.f l s1 s2 n) 1 (fun _ => True) := by
  intro s1 s2 h0 h1
  obtain ⟨r, t1, t2, e, _, q0, q1⟩ := pick_tot l hl n hn s1 s2 h0 h1
  refine ⟨(r == 0), t1, t2, ?_, trivial, q0, q1⟩
  show spec_l1Cur_one.f l s1 s2 n = _
  unfold spec_l1Cur_one.f
  rw [show spec_l1Cur_pick.f l s1 s2 n = _ from e]; rfl
theorem among_tot (xs : List Int) (h : 0 < xs.length) (h2 : xs.length ≤ 200) : TotS (fun s1 s2 => spec_l1Cur_among.f l s1 s2 xs) 1 (fun _ => True) := by
  intro s1 s2 h0 h1
  obtain ⟨r, t1, t2, e, ⟨p0, p1⟩, q0, q1⟩ := pick_tot l hl (xs.length : Int) (by omega) s1 s2 h0 h1
  refine ⟨rd xs r, t1, t2, ?_, trivial, q0, q1⟩
  show spec_l1Cur_among.f l s1 s2 xs = _
  unfold spec_l1Cur_among.f
  rw [show spec_l1Cur_pick.f l s1 s2 (xs.length : Int) = _ from e]
  simp only [Option.bind_some]
  rw [if_pos p0, if_pos (p1 (by omega))]
theorem of_tot (xs : List ByteArray) (h : 0 < xs.length) (h2 : xs.length ≤ 200) : TotS (fun s1 s2 => spec_l1Cur_of.f l s1 s2 xs) 1 (fun r => r ∈ xs) := by
  intro s1 s2 h0 h1
  obtain ⟨r, t1, t2, e, ⟨p0, p1⟩, q0, q1⟩ := pick_tot l hl (xs.length : Int) (by omega) s1 s2 h0 h1
  have p2 := p1 (by omega)
  refine ⟨rdOf ByteArray.empty xs r, t1, t2, ?_, ?_, q0, q1⟩
  · show spec_l1Cur_of.f l s1 s2 xs = _
    unfold spec_l1Cur_of.f
    rw [show spec_l1Cur_pick.f l s1 s2 (xs.length : Int) = _ from e]
    simp only [Option.bind_some]
    rw [if_pos p0, if_pos p2]
  · unfold rdOf
    have hi : r.toNat < xs.length := by omega
    rw [List.getD_eq_getElem?_getD, List.getElem?_eq_getElem hi]
    exact List.getElem_mem hi
theorem pairs_tot : ∃ n, spec_DrawCountByPeaks.f l = some n := by
  unfold spec_DrawCountByPeaks.f spec_l1Cur_pairs.f
  obtain ⟨r, t1, t2, e, _, q0, q1⟩ := one_tot l hl 12 (by omega) 0 0 (by omega) (by omega)
  rw [show spec_l1Cur_one.f l 0 0 12 = _ from e]
  simp only [Option.bind_some]
  cases r with
  | true =>
    obtain ⟨r, u1, u2, e, _, _, _⟩ := among_tot l hl [(-1), 0, 15, 16, 4611686018427387904] (by decide) (by decide) t1 t2 (by omega) (by omega)
    rw [if_pos rfl, show spec_l1Cur_among.f l t1 t2 _ = _ from e]
    exact ⟨_, rfl⟩
  | false =>
    obtain ⟨r, u1, u2, e, _, _, _⟩ := pick_tot l hl 10 (by omega) t1 t2 (by omega) (by omega)
    rw [if_neg (by decide), show spec_l1Cur_pick.f l t1 t2 10 = _ from e]
    exact ⟨_, rfl⟩
theorem path_tot (n : Nat) : ∀ (x5 : ByteArray) (s1 s2 : Int), n ≤ 1000 → x5.size ≤ 100000 - 2 * n → 0 ≤ s1 → s1 ≤ 900000 - n → ∃ r t1 t2, (∀ k, n < k → spec_l1Cur_path.l0 k x5 (n : Int) l s1 s2 = some (r, t1, t2)) ∧ r.size ≤ x5.size + n ∧ s1 ≤ t1 ∧ t1 ≤ s1 + n := by
  induction n with
  | zero =>
    intro x5 s1 s2 _ _ h0 _
    exact ⟨x5, s1, s2, fun k hk => by
      obtain ⟨k, rfl⟩ : ∃ m, k = m + 1 := ⟨k - 1, by omega⟩
      simp only [spec_l1Cur_path.l0]
      rw [if_neg (by decide)], by omega, by omega, by omega⟩
  | succ n ih =>
    intro x5 s1 s2 hn hx h0 h1
    obtain ⟨r, t1, t2, e, hr, q0, q1⟩ := of_tot l hl [(⟨#[85]⟩ : ByteArray), (⟨#[68]⟩ : ByteArray)] (by decide) (by decide) s1 s2 h0 (by omega)
    have hs : r.size = 1 := by
      simp only [List.mem_cons, List.not_mem_nil, or_false] at hr
      rcases hr with rfl | rfl <;> rfl
    obtain ⟨r', u1, u2, e2, z, w0, w1⟩ := ih (x5 ++ r) t1 t2 (by omega) (by rw [ByteArray.size_append]; omega) (by omega) (by omega)
    rw [ByteArray.size_append] at z
    refine ⟨r', u1, u2, fun k hk => ?_, by omega, by omega, by omega⟩
    obtain ⟨k, rfl⟩ : ∃ m, k = m + 1 := ⟨k - 1, by omega⟩
    simp only [spec_l1Cur_path.l0]
    rw [if_pos (by omega), show spec_l1Cur_of.f l s1 s2 _ = _ from e]
    simp only [Option.bind_some]
    rw [if_pos (by omega), show wrap64 (((n + 1 : Nat) : Int) - 1) = (n : Int) by rw [w64 (by omega) (by omega)]; omega]
    exact e2 k (by omega)
theorem good_tot (n : Nat) : ∀ (x5 : ByteArray) (x6 s1 s2 : Int), n ≤ 1000 → x5.size ≤ 100000 - n → 0 ≤ s1 → s1 ≤ 900000 - n → ∃ r t1 t2, (∀ k, n < k → spec_l1Cur_goodPath.l0 k x5 x6 (n : Int) l s1 s2 = some (r, t1, t2)) ∧ r.size ≤ x5.size + n ∧ s1 ≤ t1 ∧ t1 ≤ s1 + n := by
  induction n with
  | zero =>
    intro x5 x6 s1 s2 _ _ h0 _
    exact ⟨x5, s1, s2, fun k hk => by
      obtain ⟨k, rfl⟩ : ∃ m, k = m + 1 := ⟨k - 1, by omega⟩
      simp only [spec_l1Cur_goodPath.l0]
      rw [if_neg (by decide)], by omega, by omega, by omega⟩
  | succ n ih =>
    intro x5 x6 s1 s2 hn hx h0 h1
    have ew : wrap64 (((n + 1 : Nat) : Int) - 1) = (n : Int) := by rw [w64 (by omega) (by omega)]; omega
    have hp : ((n + 1 : Nat) : Int) > 0 := by omega
    have hz : x5.size + 1 ≤ 9223372036854775807 := by omega
    have sz : ∀ b : UInt8, (x5 ++ (⟨#[b]⟩ : ByteArray)).size = x5.size + 1 := fun b => by rw [ByteArray.size_append]; rfl
    by_cases c1 : x6 = ((n + 1 : Nat) : Int)
    · obtain ⟨r', u1, u2, e2, z, w0, w1⟩ := ih (x5 ++ (⟨#[68]⟩ : ByteArray)) (wrap64 (x6 - 1)) s1 s2 (by omega) (by rw [sz]; omega) (by omega) (by omega)
      rw [sz] at z
      refine ⟨r', u1, u2, fun k hk => ?_, by omega, by omega, by omega⟩
      obtain ⟨k, rfl⟩ : ∃ m, k = m + 1 := ⟨k - 1, by omega⟩
      simp only [spec_l1Cur_goodPath.l0]
      rw [if_pos hp, if_pos c1, if_pos hz, ew]
      exact e2 k (by omega)
    · by_cases c2 : x6 > 0
      · obtain ⟨b, t1, t2, e, _, q0, q1⟩ := one_tot l hl 2 (by omega) s1 s2 h0 (by omega)
        cases b with
        | true =>
          obtain ⟨r', u1, u2, e2, z, w0, w1⟩ := ih (x5 ++ (⟨#[68]⟩ : ByteArray)) (wrap64 (x6 - 1)) t1 t2 (by omega) (by rw [sz]; omega) (by omega) (by omega)
          rw [sz] at z
          refine ⟨r', u1, u2, fun k hk => ?_, by omega, by omega, by omega⟩
          obtain ⟨k, rfl⟩ : ∃ m, k = m + 1 := ⟨k - 1, by omega⟩
          simp only [spec_l1Cur_goodPath.l0]
          rw [if_pos hp, if_neg c1, if_pos c2, show spec_l1Cur_one.f l s1 s2 2 = _ from e]
          simp only [Option.bind_some, if_true]
          rw [if_pos hz, ew]
          exact e2 k (by omega)
        | false =>
          obtain ⟨r', u1, u2, e2, z, w0, w1⟩ := ih (x5 ++ (⟨#[85]⟩ : ByteArray)) (wrap64 (x6 + 1)) t1 t2 (by omega) (by rw [sz]; omega) (by omega) (by omega)
          rw [sz] at z
          refine ⟨r', u1, u2, fun k hk => ?_, by omega, by omega, by omega⟩
          obtain ⟨k, rfl⟩ : ∃ m, k = m + 1 := ⟨k - 1, by omega⟩
          simp only [spec_l1Cur_goodPath.l0]
          rw [if_pos hp, if_neg c1, if_pos c2, show spec_l1Cur_one.f l s1 s2 2 = _ from e]
          simp only [Option.bind_some]
          rw [if_neg (by decide), if_pos hz, ew]
          exact e2 k (by omega)
      · obtain ⟨r', u1, u2, e2, z, w0, w1⟩ := ih (x5 ++ (⟨#[85]⟩ : ByteArray)) (wrap64 (x6 + 1)) s1 s2 (by omega) (by rw [sz]; omega) (by omega) (by omega)
        rw [sz] at z
        refine ⟨r', u1, u2, fun k hk => ?_, by omega, by omega, by omega⟩
        obtain ⟨k, rfl⟩ : ∃ m, k = m + 1 := ⟨k - 1, by omega⟩
        simp only [spec_l1Cur_goodPath.l0]
        rw [if_pos hp, if_neg c1, if_neg c2, if_pos hz, ew]
        exact e2 k (by omega)
theorem spoil_tot (n : Nat) : ∀ (x1 : ByteArray) (s1 s2 : Int), n ≤ 10 → x1.size ≤ 150 - n → 0 ≤ s1 → s1 ≤ 900000 - 3 * n → ∃ r t1 t2, (∀ k, 2 * n + 1 < k → spec_l1Cur_spoilt.l0 k x1 (⟨#[85, 68, 88, 32, 117]⟩ : ByteArray) (n : Int) l s1 s2 = some (r, t1, t2)) ∧ r.size ≤ x1.size + n ∧ s1 ≤ t1 ∧ t1 ≤ s1 + 3 * n := by
  induction n with
  | zero =>
    intro x1 s1 s2 _ _ h0 _
    exact ⟨x1, s1, s2, fun k hk => by
      obtain ⟨k, rfl⟩ : ∃ m, k = m + 2 := ⟨k - 2, by omega⟩
      simp only [spec_l1Cur_spoilt.l0]
      rw [if_neg (by decide)]
      simp only [spec_l1Cur_spoilt.j1]
      rw [if_neg (by decide)], by omega, by omega, by omega⟩
  | succ n ih =>
    intro x1 s1 s2 hn hx h0 h1
    have hn9 : n ≤ 9 := by omega
    have hp : ((n + 1 : Nat) : Int) > 0 := by omega
    by_cases c0 : x1.size = 0
    · exact ⟨x1, s1, s2, fun k hk => by
        obtain ⟨k, rfl⟩ : ∃ m, k = m + 2 := ⟨k - 2, by omega⟩
        simp only [spec_l1Cur_spoilt.l0]
        rw [if_pos hp, decide_eq_false (by omega)]
        simp only [spec_l1Cur_spoilt.j1]
        rw [if_neg (by decide)], by omega, by omega, by omega⟩
    · obtain ⟨r, t1, t2, e1, ⟨p0, p1⟩, q0, q1⟩ := pick_tot l hl (x1.size : Int) (by omega) s1 s2 h0 (by omega)
      have p1 := p1 (by omega)
      obtain ⟨v, v1, v2, e2, ⟨g0, g1⟩, q2, q3⟩ := pick_tot l hl 5 (by omega) t1 t2 (by omega) (by omega)
      have g1 := g1 (by omega)
      obtain ⟨c, u1, u2, e3, _, q4, q5⟩ := pick_tot l hl 3 (by omega) v1 v2 (by omega) (by omega)
      obtain ⟨i, rfl⟩ := Int.eq_ofNat_of_zero_le p0
      have hi : i < x1.size := by omega
      have z0 : (x1.extract 0 i).size = i := by rw [ByteArray.size_extract]; omega
      have z1 : (x1.extract i x1.size).size = x1.size - i := by rw [ByteArray.size_extract]; omega
      have z2 : (x1.extract (i + 1) x1.size).size = x1.size - (i + 1) := by rw [ByteArray.size_extract]; omega
      have z3 : (strOfNums ([bt (⟨#[85, 68, 88, 32, 117]⟩ : ByteArray) v] : List Int)).size = 1 := rfl
      have hi9 : i ≤ 1000 := by omega
      by_cases d0 : c = 0
      · obtain ⟨r', w1, w2, f, z, k0, k1⟩ := ih (((x1.extract 0 i) ++ (strOfNums ([bt (⟨#[85, 68, 88, 32, 117]⟩ : ByteArray) v] : List Int))) ++ (x1.extract i x1.size)) u1 u2 (by omega) (by rw [ByteArray.size_append, ByteArray.size_append, z0, z1, z3]; omega) (by omega) (by omega)
        rw [ByteArray.size_append, ByteArray.size_append, z0, z1, z3] at z
        refine ⟨r', w1, w2, fun k hk => ?_, by omega, by omega, by omega⟩
        obtain ⟨k, rfl⟩ : ∃ m, k = m + 2 := ⟨k - 2, by omega⟩
        simp only [spec_l1Cur_spoilt.l0]
        rw [if_pos hp, decide_eq_true (by omega)]
        simp only [spec_l1Cur_spoilt.j1]
        rw [if_pos trivial, show spec_l1Cur_pick.f l s1 s2 (x1.size : Int) = _ from e1]
        simp only [Option.bind_some, size5]
        rw [show spec_l1Cur_pick.f l t1 t2 5 = _ from e2]
        simp only [Option.bind_some]
        rw [if_pos g0, if_pos g1, show spec_l1Cur_pick.f l v1 v2 3 = _ from e3]
        simp only [Option.bind_some, Int.toNat_natCast, pre_w n hn9]
        rw [if_pos d0, if_pos (Int.natCast_nonneg i), if_pos (by omega), if_pos (by rw [z0, z3]; omega), if_pos (by rw [ByteArray.size_append, z0, z3, z1]; omega)]
        exact f k (by omega)
      · by_cases d1 : c = 1
        · obtain ⟨r', w1, w2, f, z, k0, k1⟩ := ih (((x1.extract 0 i) ++ (strOfNums ([bt (⟨#[85, 68, 88, 32, 117]⟩ : ByteArray) v] : List Int))) ++ (x1.extract (i + 1) x1.size)) u1 u2 (by omega) (by rw [ByteArray.size_append, ByteArray.size_append, z0, z2, z3]; omega) (by omega) (by omega)
          rw [ByteArray.size_append, ByteArray.size_append, z0, z2, z3] at z
          refine ⟨r', w1, w2, fun k hk => ?_, by omega, by omega, by omega⟩
          obtain ⟨k, rfl⟩ : ∃ m, k = m + 2 := ⟨k - 2, by omega⟩
          simp only [spec_l1Cur_spoilt.l0]
          rw [if_pos hp, decide_eq_true (by omega)]
          simp only [spec_l1Cur_spoilt.j1]
          rw [if_pos trivial, show spec_l1Cur_pick.f l s1 s2 (x1.size : Int) = _ from e1]
          simp only [Option.bind_some, size5]
          rw [show spec_l1Cur_pick.f l t1 t2 5 = _ from e2]
          simp only [Option.bind_some]
          rw [if_pos g0, if_pos g1, show spec_l1Cur_pick.f l v1 v2 3 = _ from e3]
          simp only [Option.bind_some, Int.toNat_natCast, pre_w n hn9, suc_w i hi9]
          rw [if_neg d0, if_pos d1, if_pos (Int.natCast_nonneg i), if_pos (by omega), if_pos (by rw [z0, z3]; omega), if_pos (Int.natCast_nonneg _), if_pos (by omega), if_pos (by rw [ByteArray.size_append, z0, z3, z2]; omega)]
          exact f k (by omega)
        · obtain ⟨r', w1, w2, f, z, k0, k1⟩ := ih ((x1.extract 0 i) ++ (x1.extract (i + 1) x1.size)) u1 u2 (by omega) (by rw [ByteArray.size_append, z0, z2]; omega) (by omega) (by omega)
          rw [ByteArray.size_append, z0, z2] at z
          refine ⟨r', w1, w2, fun k hk => ?_, by omega, by omega, by omega⟩
          obtain ⟨k, rfl⟩ : ∃ m, k = m + 2 := ⟨k - 2, by omega⟩
          simp only [spec_l1Cur_spoilt.l0]
          rw [if_pos hp, decide_eq_true (by omega)]
          simp only [spec_l1Cur_spoilt.j1]
          rw [if_pos trivial, show spec_l1Cur_pick.f l s1 s2 (x1.size : Int) = _ from e1]
          simp only [Option.bind_some, size5]
          rw [show spec_l1Cur_pick.f l t1 t2 5 = _ from e2]
          simp only [Option.bind_some]
          rw [if_pos g0, if_pos g1, show spec_l1Cur_pick.f l v1 v2 3 = _ from e3]
          simp only [Option.bind_some, Int.toNat_natCast, pre_w n hn9, suc_w i hi9]
          rw [if_neg d0, if_neg d1, if_pos (Int.natCast_nonneg i), if_pos (by omega), if_pos (Int.natCast_nonneg _), if_pos (by omega), if_pos (by rw [z0, z2]; omega)]
          exact f k (by omega)
theorem any_tot (d : Nat) : ∀ (x5 : ByteArray) (s1 s2 : Int), d ≤ 40 → 41 ≤ x5.size + 2 * d → x5.size ≤ 100 - 2 * d → 0 ≤ s1 → s1 ≤ 900000 - 3 * d → ∃ r t1 t2, (∀ k, d < k → spec_l1Cur_anyPath.l0 k x5 l s1 s2 = some (r, t1, t2)) ∧ r.size ≤ 100 ∧ s1 ≤ t1 := by
  induction d with
  | zero =>
    intro x5 s1 s2 _ hx hx2 h0 h1
    obtain ⟨r, t1, t2, e1, ⟨p0, p1⟩, q0, q1⟩ := pick_tot l hl 2 (by omega) s1 s2 h0 (by omega)
    have p1 := p1 (by omega)
    refine ⟨x5, t1, t2, fun k hk => ?_, by omega, by omega⟩
    obtain ⟨k, rfl⟩ : ∃ m, k = m + 1 := ⟨k - 1, by omega⟩
    simp only [spec_l1Cur_anyPath.l0]
    rw [show spec_l1Cur_pick.f l s1 s2 2 = _ from e1]
    simp only [Option.bind_some, pl_w r p0 p1]
    rw [if_neg (by omega)]
  | succ d ih =>
    intro x5 s1 s2 hd hx hx2 h0 h1
    obtain ⟨r, t1, t2, e1, ⟨p0, p1⟩, q0, q1⟩ := pick_tot l hl 2 (by omega) s1 s2 h0 (by omega)
    have p1 := p1 (by omega)
    by_cases c : (x5.size : Int) < 40 + r
    · obtain ⟨b, v1, v2, e2, hb, q2, q3⟩ := of_tot l hl [(⟨#[85, 68]⟩ : ByteArray), (⟨#[68, 85]⟩ : ByteArray), (⟨#[85, 85]⟩ : ByteArray)] (by decide) (by decide) t1 t2 (by omega) (by omega)
      have hs : b.size = 2 := by
        simp only [List.mem_cons, List.not_mem_nil, or_false] at hb
        rcases hb with rfl | rfl | rfl <;> rfl
      obtain ⟨r', u1, u2, f, z, k0⟩ := ih (x5 ++ b) v1 v2 (by omega) (by rw [ByteArray.size_append]; omega) (by rw [ByteArray.size_append]; omega) (by omega) (by omega)
      refine ⟨r', u1, u2, fun k hk => ?_, z, by omega⟩
      obtain ⟨k, rfl⟩ : ∃ m, k = m + 1 := ⟨k - 1, by omega⟩
      simp only [spec_l1Cur_anyPath.l0]
      rw [show spec_l1Cur_pick.f l s1 s2 2 = _ from e1]
      simp only [Option.bind_some, pl_w r p0 p1]
      rw [if_pos c, show spec_l1Cur_of.f l t1 t2 _ = _ from e2]
      simp only [Option.bind_some]
      rw [if_pos (by omega)]
      exact f k (by omega)
    · refine ⟨x5, t1, t2, fun k hk => ?_, by omega, by omega⟩
      obtain ⟨k, rfl⟩ : ∃ m, k = m + 1 := ⟨k - 1, by omega⟩
      simp only [spec_l1Cur_anyPath.l0]
      rw [show spec_l1Cur_pick.f l s1 s2 2 = _ from e1]
      simp only [Option.bind_some, pl_w r p0 p1]
      rw [if_neg c]
end
section
variable (l : List Int) (hl : ∀ x ∈ l, 0 ≤ x ∧ x ≤ 255)
include hl
theorem goodf_tot (a : Int) (ha : 0 ≤ a ∧ a ≤ 10) (s1 s2 : Int) (h0 : 0 ≤ s1) (h1 : s1 ≤ 800000) : ∃ r t1 t2, (∀ k, 100 < k → spec_l1Cur_goodPath.f k l s1 s2 a = some (r, t1, t2)) ∧ r.size ≤ 100 := by
  have ea : wrap64 (a + 1) = a + 1 := w64 (by omega) (by omega)
  obtain ⟨r, t1, t2, e, ⟨p0, p1⟩, q0, q1⟩ := pick_tot l hl (a + 1) (by omega) s1 s2 h0 (by omega)
  have p1 := p1 (by omega)
  obtain ⟨n, rfl⟩ := Int.eq_ofNat_of_zero_le p0
  have er : wrap64 (2 * (n : Int)) = ((2 * n : Nat) : Int) := by rw [w64 (by omega) (by omega)]; omega
  clear ea
  obtain ⟨r', u1, u2, f, z, _, _⟩ := good_tot l hl (2 * n) (⟨#[]⟩ : ByteArray) 0 t1 t2 (by omega) (by show 0 ≤ _; omega) (by omega) (by omega)
  refine ⟨r', u1, u2, fun k hk => ?_, by have : (⟨#[]⟩ : ByteArray).size = 0 := rfl; omega⟩
  unfold spec_l1Cur_goodPath.f
  rw [show wrap64 (a + 1) = a + 1 from w64 (by omega) (by omega), show spec_l1Cur_pick.f l s1 s2 (a + 1) = _ from e]
  simp only [Option.bind_some]
  rw [er]
  exact f k (by omega)
theorem pathf_tot (a : Int) (ha : 0 ≤ a ∧ a ≤ 10) (s1 s2 : Int) (h0 : 0 ≤ s1) (h1 : s1 ≤ 800000) : ∃ r t1 t2, (∀ k, 100 < k → spec_l1Cur_path.f k l s1 s2 a = some (r, t1, t2)) ∧ r.size ≤ 100 ∧ 0 ≤ t1 ∧ t1 ≤ s1 + 100 := by
  obtain ⟨r, t1, t2, e, ⟨p0, p1⟩, q0, q1⟩ := pick_tot l hl (a + 1) (by omega) s1 s2 h0 (by omega)
  have p1 := p1 (by omega)
  obtain ⟨n, rfl⟩ := Int.eq_ofNat_of_zero_le p0
  obtain ⟨r', u1, u2, f, z, _, _⟩ := path_tot l hl n (⟨#[]⟩ : ByteArray) t1 t2 (by omega) (by show 0 ≤ _; omega) (by omega) (by omega)
  refine ⟨r', u1, u2, fun k hk => ?_, by have : (⟨#[]⟩ : ByteArray).size = 0 := rfl; omega, by omega, by omega⟩
  unfold spec_l1Cur_path.f
  rw [show wrap64 (a + 1) = a + 1 from w64 (by omega) (by omega), show spec_l1Cur_pick.f l s1 s2 (a + 1) = _ from e]
  simp only [Option.bind_some]
  exact f k (by omega)
theorem spoilf_tot (x1 : ByteArray) (hx : x1.size ≤ 100) (s1 s2 : Int) (h0 : 0 ≤ s1) (h1 : s1 ≤ 800000) : ∃ r t1 t2, (∀ k, 100 < k → spec_l1Cur_spoilt.f k l s1 s2 x1 (⟨#[85, 68, 88, 32, 117]⟩ : ByteArray) = some (r, t1, t2)) ∧ r.size ≤ 200 := by
  obtain ⟨r, t1, t2, e, ⟨p0, p1⟩, q0, q1⟩ := pick_tot l hl 2 (by omega) s1 s2 h0 (by omega)
  have p1 := p1 (by omega)
  obtain ⟨n, rfl⟩ := Int.eq_ofNat_of_zero_le p0
  obtain ⟨r', u1, u2, f, z, _, _⟩ := spoil_tot l hl (1 + n) x1 t1 t2 (by omega) (by omega) (by omega) (by omega)
  refine ⟨r', u1, u2, fun k hk => ?_, by omega⟩
  unfold spec_l1Cur_spoilt.f
  rw [show spec_l1Cur_pick.f l s1 s2 2 = _ from e]
  simp only [Option.bind_some]
  rw [show wrap64 (1 + (n : Int)) = ((1 + n : Nat) : Int) by rw [w64 (by omega) (by omega)]; omega]
  exact f k (by omega)
theorem j1_tot (b : Bool) (s1 s2 : Int) (h0 : 0 ≤ s1) (h1 : s1 ≤ 800000) : ∃ r t1 t2, (∀ k, 200 < k → spec_l1Cur_anyPath.j1 k 10 b l s1 s2 = some (r, t1, t2)) ∧ r.size ≤ 200 := by
  cases b with
  | true =>
    obtain ⟨r, t1, t2, f, z⟩ := goodf_tot l hl 5 (by omega) s1 s2 h0 h1
    refine ⟨r, t1, t2, fun k hk => ?_, by omega⟩
    obtain ⟨k, rfl⟩ : ∃ m, k = m + 1 := ⟨k - 1, by omega⟩
    simp only [spec_l1Cur_anyPath.j1]
    rw [if_pos trivial, show wrap64 (Int.tdiv 10 2) = 5 from w64 (by decide) (by decide), f k (by omega)]
    rfl
  | false =>
    obtain ⟨r, t1, t2, f, z, _, _⟩ := pathf_tot l hl 10 (by omega) s1 s2 h0 h1
    refine ⟨r, t1, t2, fun k hk => ?_, by omega⟩
    obtain ⟨k, rfl⟩ : ∃ m, k = m + 1 := ⟨k - 1, by omega⟩
    simp only [spec_l1Cur_anyPath.j1]
    rw [if_neg (by decide), f k (by omega)]
    rfl
theorem anyf_tot (s1 s2 : Int) (h0 : 0 ≤ s1) (h1 : s1 ≤ 1000) : ∃ r t1 t2, (∀ k, 300 < k → spec_l1Cur_anyPath.f k l s1 s2 10 = some (r, t1, t2)) ∧ r.size ≤ 200 := by
  obtain ⟨r, t1, t2, e, _, q0, q1⟩ := pick_tot l hl 16 (by omega) s1 s2 h0 (by omega)
  by_cases c0 : r = 0
  · obtain ⟨p, u1, u2, f, z, z1, z2⟩ := pathf_tot l hl 10 (by omega) t1 t2 (by omega) (by omega)
    obtain ⟨p', v1, v2, f', z'⟩ := spoilf_tot l hl p z u1 u2 z1 (by omega)
    refine ⟨p', v1, v2, fun k hk => ?_, by omega⟩
    unfold spec_l1Cur_anyPath.f
    rw [show spec_l1Cur_pick.f l s1 s2 16 = _ from e]
    simp only [Option.bind_some]
    rw [if_pos c0, f k (by omega)]
    simp only [Option.bind_some]
    rw [f' k (by omega)]
    rfl
  · by_cases c1 : r = 1
    · obtain ⟨p, u1, u2, f, z, _⟩ := any_tot l hl 21 (⟨#[]⟩ : ByteArray) t1 t2 (by omega) (by omega) (by show 0 ≤ _; omega) (by omega) (by omega)
      refine ⟨p, u1, u2, fun k hk => ?_, by omega⟩
      unfold spec_l1Cur_anyPath.f
      rw [show spec_l1Cur_pick.f l s1 s2 16 = _ from e]
      simp only [Option.bind_some]
      rw [if_neg c0, if_pos c1]
      exact f k (by omega)
    · have hj : ∀ b : Bool, ∃ r t1' t2', (∀ k, 200 < k → spec_l1Cur_anyPath.j1 k 10 b l t1 t2 = some (r, t1', t2')) ∧ r.size ≤ 200 := fun b => j1_tot l hl b t1 t2 (by omega) (by omega)
      obtain ⟨b, hb⟩ : ∃ b : Bool, ∀ k, spec_l1Cur_anyPath.f k l s1 s2 10 = spec_l1Cur_anyPath.j1 k 10 b l t1 t2 := by
        refine ⟨if r = 2 then (r == 2) else if r = 3 then (r == 3) else if r = 4 then (r == 4) else if r = 5 then (r == 5) else (r == 6), fun k => ?_⟩
        unfold spec_l1Cur_anyPath.f
        rw [show spec_l1Cur_pick.f l s1 s2 16 = _ from e]
        simp only [Option.bind_some]
        rw [if_neg c0, if_neg c1]
        by_cases d2 : r = 2
        · rw [if_pos d2, if_pos d2]
        · rw [if_neg d2, if_neg d2]
          by_cases d3 : r = 3
          · rw [if_pos d3, if_pos d3]
          · rw [if_neg d3, if_neg d3]
            by_cases d4 : r = 4
            · rw [if_pos d4, if_pos d4]
            · rw [if_neg d4, if_neg d4]
              by_cases d5 : r = 5
              · rw [if_pos d5, if_pos d5]
              · rw [if_neg d5, if_neg d5]
      obtain ⟨p, u1, u2, f, z⟩ := hj b
      exact ⟨p, u1, u2, fun k hk => by rw [hb k]; exact f k (by omega), z⟩
theorem area_tot : ∃ s : ByteArray, s.size ≤ 200 ∧ QFnGoodPathsSorted.Ev (fun k => spec_DrawAreaIndex.f k l) s := by
  obtain ⟨r, t1, t2, e, _, q0, q1⟩ := one_tot l hl 4 (by omega) 0 0 (by omega) (by omega)
  cases r with
  | true =>
    obtain ⟨p, u1, u2, f, z⟩ := anyf_tot l hl t1 t2 (by omega) (by omega)
    refine ⟨p, z, 301, fun k hk => ?_⟩
    show spec_DrawAreaIndex.f k l = _
    unfold spec_DrawAreaIndex.f
    rw [show spec_l1Cur_one.f l 0 0 4 = _ from e]
    simp only [Option.bind_some, if_true]
    rw [f k (by omega)]
    rfl
  | false =>
    obtain ⟨p, u1, u2, f, z⟩ := goodf_tot l hl 7 (by omega) t1 t2 (by omega) (by omega)
    refine ⟨p, by omega, 301, fun k hk => ?_⟩
    show spec_DrawAreaIndex.f k l = _
    unfold spec_DrawAreaIndex.f
    rw [show spec_l1Cur_one.f l 0 0 4 = _ from e]
    simp only [Option.bind_some, Bool.false_eq_true, if_false]
    rw [f k (by omega)]
    rfl
end

/-! ### The law -/
theorem same_self (L : List Int) (hl : L.length ≤ 1000) (k : Nat) (hk : 1000 < k) : laws_ySame.f k L L = some true := by
  unfold laws_ySame.f
  rw [if_pos rfl]
  exact (loop_range (fun k (_ : Unit) i => laws_ySame.l0 k L L (L.length : Int) i) L.length (fun _ _ => ()) (fun _ => true) (fun _ _ => True)
    (fun k i _ hi _ => by
      refine ⟨?_, trivial⟩
      have e3 : wrap64 ((i : Int) + 1) = ((i + 1 : Nat) : Int) := by rw [w64 (by omega) (by omega)]; omega
      simp only [laws_ySame.l0, e3, if_true]
      repeat rw [if_pos (by omega)])
    (fun k _ _ => by simp only [laws_ySame.l0]; rw [if_neg (by omega)]) k () trivial (by omega)).1
theorem u8_b {n : Int} (h : (Lit.int .u8 n).wf = true) : 0 ≤ n ∧ n ≤ 255 := by
  simp [Lit.wf, IntKind.min, IntKind.max, IntKind.signed, IntKind.bits] at h
  omega
theorem big_some (l0 l1 : List Int) : ∃ b, laws_big.f l0 l1 = some b := by
  unfold laws_big.f
  by_cases h : (l0.length : Int) > 1048576
  · exact ⟨true, if_pos h⟩
  · exact ⟨_, if_neg h⟩
theorem law_red (k : Nat) (l0 l1 : List Int) (n : Int) (P H T A N : List Int) (C S O : Int) (b : Bool) (hb : laws_big.f l0 l1 = some false) (hn : spec_DrawCountByPeaks.f l0 = some n)
    (p1 : impl_CountByPeaks.f k n = some (P, b)) (p2 : spec_CountByPeaks.f k n = some (P, b)) (h1 : impl_CountByHeight.f k n = some (H, b)) (h2 : spec_CountByHeight.f k n = some (H, b))
    (t1 : impl_CountByReturns.f k n = some (T, b)) (t2 : spec_CountByReturns.f k n = some (T, b)) (a1 : impl_CountByArea.f k n = some (A, b)) (a2 : spec_CountByArea.f k n = some (A, b))
    (n1 : impl_CountByFirstRun.f k n = some (N, b)) (n2 : spec_CountByFirstRun.f k n = some (N, b)) (c1 : impl_CountGoodClosed.f k n = some (C, b)) (c2 : spec_CountGoodClosed.f k n = some (C, b))
    (s1 : impl_SumOfAreas.f k n = some (S, b)) (s2 : spec_SumOfAreas.f k n = some (S, b)) (o1 : impl_SumOfHighest.f k n = some (O, b)) (o2 : spec_SumOfHighest.f k n = some (O, b))
    (sP : laws_ySame.f k P P = some true) (sH : laws_ySame.f k H H = some true) (sT : laws_ySame.f k T T = some true) (sA : laws_ySame.f k A A = some true) (sN : laws_ySame.f k N N = some true) :
    laws_FnGoodPathsSorted.f k l0 l1 = laws_FnGoodPathsSorted.j0 k l1 n P b H T A N C S O false := by
  have hbb : ¬ (b != b) = true := by cases b <;> exact Bool.false_ne_true
  unfold laws_FnGoodPathsSorted.f
  rw [hb, Option.bind_some, if_neg Bool.false_ne_true, hn, Option.bind_some, p1, Option.bind_some, p2, Option.bind_some, h1, Option.bind_some, h2, Option.bind_some, t1, Option.bind_some, t2, Option.bind_some, a1, Option.bind_some, a2, Option.bind_some, n1, Option.bind_some, n2, Option.bind_some, c1, Option.bind_some, c2, Option.bind_some, s1, Option.bind_some, s2, Option.bind_some, o1, Option.bind_some, o2, Option.bind_some]
  rw [if_neg hbb, sP, Option.bind_some, if_pos rfl]
  rw [if_neg hbb, sH, Option.bind_some, if_pos rfl]
  rw [if_neg hbb, sT, Option.bind_some, if_pos rfl]
  rw [if_neg hbb, sA, Option.bind_some, if_pos rfl]
  rw [if_neg hbb, sN, Option.bind_some, if_pos rfl]
  rw [if_neg hbb, if_pos rfl, if_neg hbb, if_pos rfl, if_neg hbb, if_pos rfl]
  rw [if_neg hbb, if_neg hbb, if_neg hbb, if_neg hbb, if_neg hbb, if_neg hbb]
  show laws_FnGoodPathsSorted.j0 k l1 n P b H T A N C S O (b != b) = _
  rw [Bool.eq_false_iff.mpr hbb]
theorem law_in (k : Nat) (hk : 40000000 ≤ k) (l0 l1 : List Int) (n : Nat) (hn : n < 16) (hb : laws_big.f l0 l1 = some false) (hd : spec_DrawCountByPeaks.f l0 = some (n : Int)) :
    laws_FnGoodPathsSorted.f k l0 l1 = laws_FnGoodPathsSorted.j0 k l1 (n : Int) (vP n) true (vH n) (vT n) (AreaRow.row n) (vT n) (vC n) (vS n) (vO n) false := by
  have hn5 : n ≤ 15 := by omega
  have k2 : 20000 ≤ k := by omega
  have k3 : 300 ≤ k := by omega
  have k4 : 1050000 < k := by omega
  have k5 : 1000 < k := by omega
  have k6 : 5000 ≤ k := by omega
  obtain ⟨L, b, hL, hs, hi⟩ := Hgt.both (n : Int)
  obtain ⟨rfl, rfl⟩ : L = vH n ∧ b = true := by
    have := (hs 20000 (by decide)).symm.trans (val_H n hn)
    injection this with this
    injection this with u v
    exact ⟨u, v⟩
  have hp : impl_isPairs.f (n : Int) = some true := by
    unfold impl_isPairs.f
    rw [in_some, decide_eq_true ⟨Int.natCast_nonneg n, by omega⟩]
    rfl
  have ho : impl_SumOfHighest.f 20000 (n : Int) = some (vO n, true) := by
    unfold impl_SumOfHighest.f
    rw [hp, Option.bind_some, if_pos rfl, sumL_eq (n : Int) (Int.natCast_nonneg n) (by omega)]
    exact val_O2 n hn
  have hT : impl_CountByReturns.f k (n : Int) = some (vT n, true) := up' (fun k => impl_CountByReturns.f k (n : Int)) (fun k => impl_CountByReturns.mono _ k) (val_T n hn) k k2
  have lP := (v6 n hn).1
  have lT := (v6 n hn).2.2
  have lA := (v1 n hn).2.2.2.1
  refine law_red k l0 l1 (n : Int) (vP n) (vH n) (vT n) (AreaRow.row n) (vT n) (vC n) (vS n) (vO n) true hb hd ?_ ?_ (hi k k6) (hs k k6) hT ?_ ?_ ?_ ?_ ?_ ?_ ?_ ?_ ?_ ?_ ?_ ?_ ?_ ?_ ?_ ?_
  · exact up' (fun k => impl_CountByPeaks.f k (n : Int)) (fun k => impl_CountByPeaks.mono _ k) (val_P n hn) k k2
  · exact up' (fun k => spec_CountByPeaks.f k (n : Int)) (fun k => spec_CountByPeaks.mono _ k) (val_P2 n hn) k k2
  · exact up' (fun k => spec_CountByReturns.f k (n : Int)) (fun k => spec_CountByReturns.mono _ k) (val_T2 n hn) k k2
  · exact AreaRow.impl_row n hn5 k k4
  · exact (AreaRow.spec_eq n hn5 k hk).1
  · unfold impl_CountByFirstRun.f
    rw [hT]
    rfl
  · exact up' (fun k => spec_CountByFirstRun.f k (n : Int)) (fun k => spec_CountByFirstRun.mono _ k) (val_N n hn) k k2
  · exact up' (fun k => impl_CountGoodClosed.f k (n : Int)) (fun k => impl_CountGoodClosed.mono _ k) (val_C n hn) k k2
  · exact up' (fun k => spec_CountGoodClosed.f k (n : Int)) (fun k => spec_CountGoodClosed.mono _ k) (val_C2 n hn) k k2
  · exact up' (fun k => impl_SumOfAreas.f k (n : Int)) (fun k => impl_SumOfAreas.mono _ k) (val_S n hn) k k3
  · rw [AreaRow.spec_sum n hn5 k hk]; exact val_S n hn
  · exact up' (fun k => impl_SumOfHighest.f k (n : Int)) (fun k => impl_SumOfHighest.mono _ k) ho k k2
  · exact up' (fun k => spec_SumOfHighest.f k (n : Int)) (fun k => spec_SumOfHighest.mono _ k) (val_O n hn) k k2
  · exact same_self _ (by omega) k k5
  · exact same_self _ (by omega) k k5
  · exact same_self _ (by omega) k k5
  · exact same_self _ (by omega) k k5
  · exact same_self _ (by omega) k k5
theorem law_out (k : Nat) (hk : 1000 < k) (l0 l1 : List Int) (n : Int) (hn : ¬ (0 ≤ n ∧ n ≤ 15)) (hb : laws_big.f l0 l1 = some false) (hd : spec_DrawCountByPeaks.f l0 = some n) :
    laws_FnGoodPathsSorted.f k l0 l1 = laws_FnGoodPathsSorted.j0 k l1 n [] false [] [] [] [] 0 0 0 false := by
  obtain ⟨q1, q2⟩ := outside n hn
  have s0 : laws_ySame.f k [] [] = some true := same_self [] (by decide) k hk
  refine law_red k l0 l1 n [] [] [] [] [] 0 0 0 false hb hd ?_ ?_ ?_ ?_ ?_ ?_ ?_ ?_ ?_ ?_ ?_ ?_ ?_ ?_ ?_ ?_ s0 s0 s0 s0 s0
  · simp [impl_CountByPeaks.f, q2]
  · simp [spec_CountByPeaks.f, q1]
  · simp [impl_CountByHeight.f, q2]
  · simp [spec_CountByHeight.f, q1]
  · simp [impl_CountByReturns.f, q2]
  · simp [spec_CountByReturns.f, q1]
  · simp [impl_CountByArea.f, q2]
  · simp [spec_CountByArea.f, q1]
  · simp [impl_CountByFirstRun.f, impl_CountByReturns.f, q2]
  · simp [spec_CountByFirstRun.f, q1]
  · simp [impl_CountGoodClosed.f, q2]
  · simp [spec_CountGoodClosed.f, q1]
  · simp [impl_SumOfAreas.f, q2]
  · simp [spec_SumOfAreas.f, q1]
  · simp [impl_SumOfHighest.f, q2]
  · simp [spec_SumOfHighest.f, q1]
theorem FnGoodPathsSorted : laws_FnGoodPathsSorted.Pure := by
  intro l0 l1 _ _ hw0 _ _ hw1
  have hl0 := fun x hx => u8_b (hw0 x hx)
  have hl1 := fun x hx => u8_b (hw1 x hx)
  obtain ⟨b, hb⟩ : ∃ b, laws_big.f l0 l1 = some b := big_some l0 l1
  cases b with
  | true =>
    refine ⟨0, ?_⟩
    unfold laws_FnGoodPathsSorted.f
    rw [hb]
    simp only [Option.bind_some, if_true]
  | false =>
    obtain ⟨n, hd⟩ := pairs_tot l0 hl0
    obtain ⟨s, hs, ha⟩ := area_tot l1 hl1
    have h6 : QFnGoodPathsSorted.Ev (fun k => laws_FnGoodPathsSorted.j6 k l1) true := path_part s (by omega) l1 ha
    by_cases c : 0 ≤ n ∧ n ≤ 15
    · obtain ⟨m, rfl⟩ := Int.eq_ofNat_of_zero_le c.1
      have hm : m < 16 := by omega
      have h2 := l2_run l1 m (by omega) (vP m) (vH m) (rnds_n m hm) h6 m 1 (by omega) (Nat.le_refl _)
      obtain ⟨k0, hk0⟩ := j0_red l1 (m : Int) (vP m) (vH m) (vT m) (AreaRow.row m) (vT m) (vC m) (vS m) (vO m) (vcp m) (vp4 m) (vals_n m hm) h2
      obtain ⟨k, g1, g2⟩ : ∃ k : Nat, k0 ≤ k ∧ 40000000 ≤ k := ⟨max k0 40000000, Nat.le_max_left _ _, Nat.le_max_right _ _⟩
      refine ⟨k, ?_⟩
      rw [law_in k g2 l0 l1 m hm hb hd]
      exact hk0 k g1
    · obtain ⟨k0, hk0⟩ := h6
      obtain ⟨k, g1, g2⟩ : ∃ k : Nat, k0 ≤ k ∧ 1000 ≤ k := ⟨max k0 1000, Nat.le_max_left _ _, Nat.le_max_right _ _⟩
      refine ⟨k + 1, ?_⟩
      rw [law_out (k + 1) (by omega) l0 l1 n c hb hd, laws_FnGoodPathsSorted.j0, if_neg Bool.false_ne_true, if_neg Bool.false_ne_true]
      exact hk0 k g1

end Go.Proofs.YtjjkglfpcdedlabDoor.PuqFnGoodPathsSorted
namespace Go.Proofs.YtjjkglfpcdedlabDoor.Pure
open Go.Proofs.YtjjkglfpcdedlabDoor.QFnGoodPathsSorted
theorem FnGoodPathsSorted : laws_FnGoodPathsSorted.Pure := Go.Proofs.YtjjkglfpcdedlabDoor.PuqFnGoodPathsSorted.FnGoodPathsSorted
end Go.Proofs.YtjjkglfpcdedlabDoor.Pure
