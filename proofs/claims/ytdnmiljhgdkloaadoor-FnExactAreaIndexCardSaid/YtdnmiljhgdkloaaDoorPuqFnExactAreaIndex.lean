/- The program's AreaIndex returns what the reference's returns, for all arguments (no condition). -/
import Derived.Test.YtdnmiljhgdkloaaDoorQFnExactAreaIndexx2
import Derived.Test.YtdnmiljhgdkloaaDoorZpl
namespace Go.Proofs.YtdnmiljhgdkloaaDoor.PuqFnExactAreaIndex
open Go.RowKit Go.Proofs.YtdnmiljhgdkloaaDoor.QFnExactAreaIndex Go.Proofs.YtdnmiljhgdkloaaDoorW.PrintWords Go.Proofs.YtdnmiljhgdkloaaDoorW.PrintLast Go.Proofs.YtdnmiljhgdkloaaDoorPl
set_option linter.unusedVariables false

theorem paGood_l (s : ByteArray) (hn : s.size ≤ 1048576) (d : Nat) : ∀ (k i : Nat), i + d = s.size → d < k → spec_paGood.l0 k s (i : Int) = some ((List.range' i d).all fun j => decide (bt s (j : Int) = 85 ∨ bt s (j : Int) = 68)) := by
  induction d with
  | zero =>
    intro k i h1 h2
    obtain ⟨k, rfl⟩ : ∃ m, k = m + 1 := ⟨k - 1, by omega⟩
    simp only [spec_paGood.l0]
    rw [if_neg (by omega)]
    rfl
  | succ d ih =>
    intro k i h1 h2
    obtain ⟨k, rfl⟩ : ∃ m, k = m + 1 := ⟨k - 1, by omega⟩
    simp only [spec_paGood.l0]
    rw [if_pos (by omega), if_pos (by omega), w64 (by omega) (by omega), show ((i : Int) + 1) = ((i + 1 : Nat) : Int) by omega, ih k (i + 1) (by omega) (by omega), List.range'_succ, List.all_cons]
    by_cases h' : bt s (i : Int) = 85
    · rw [if_pos h', decide_eq_true (.inl h'), Bool.true_and]
    · rw [if_neg h']
      by_cases h : bt s (i : Int) = 68
      · rw [if_pos h, decide_eq_true (.inr h), Bool.true_and]
      · rw [if_neg h, decide_eq_false (fun H => H.elim h' h), Bool.false_and]

theorem paGood_eq (s : ByteArray) (k : Nat) (hk : 41 < k) : spec_paGood.f k s = some (decide (s.size ≤ 40) && isP s) := by
  unfold spec_paGood.f
  by_cases h : s.size ≤ 40
  · rw [if_neg (by omega)]
    have := paGood_l s (by omega) s.size k 0 (by omega) (by omega)
    rw [show ((0 : Nat) : Int) = 0 from rfl] at this
    rw [this]
    congr 1
    rw [Bool.eq_iff_iff, List.all_eq_true]
    simp only [decide_eq_true_eq, Bool.and_eq_true]
    rw [all_of_bt]
    exact ⟨fun H => ⟨h, fun i hi => H i (by rw [List.mem_range'_1]; omega)⟩, fun H i hi => H.2 i (by rw [List.mem_range'_1] at hi; omega)⟩
  · rw [if_pos (by omega)]
    simp [h]

theorem isPath_eq (s : ByteArray) (hs : s.size ≤ 140737488351232) : impl_IsPath.f s = some (decide (s.size ≤ 40) && isP s) := by
  unfold impl_IsPath.f
  by_cases h : s.size ≤ 40
  · rw [if_pos (by omega)]
    unfold strings_Trim.f
    rw [if_pos (by omega), if_pos (by decide), if_pos (by decide)]
    simp only [Option.bind_some, Option.some.injEq]
    rw [trim_eq]
    simp only [h, decide_true, Bool.true_and]
    unfold isP
    congr 1
    funext b
    rw [Bool.eq_iff_iff]
    simp
  · rw [if_neg (by omega)]
    simp [h]

theorem heights_eq (s : ByteArray) (h40 : s.size ≤ 40) (k : Nat) (hk : s.size < k) : impl_heights.f k s = some (hts s s.size) := by
  unfold impl_heights.f
  have := (loop_range (fun k (st : List Int) i => impl_heights.l0 k s st (s.size : Int) i) s.size (fun st i => st ++ [hgt s (i + 1)]) id (fun i st => st = hts s i)
    (fun k i st hi hI => by
      subst hI
      refine ⟨?_, (hts_succ s i).symm⟩
      have hb := hgt_bound s i
      simp only [impl_heights.l0]
      rw [if_pos (by omega), if_pos (by omega), if_pos (by omega), rd_hts s i i (Nat.le_refl _), w64 (x := (i : Int) + 1) (by omega) (by omega)]
      by_cases h : bt s (i : Int) = 68
      · rw [if_pos h, if_pos (by rw [hts_length]; omega), if_pos (by rw [hts_length]; omega), w64 (by omega) (by omega)]
        simp only [hgt, if_pos h]; rfl
      · rw [if_neg h, if_pos (by rw [hts_length]; omega), if_pos (by rw [hts_length]; omega), w64 (by omega) (by omega)]
        simp only [hgt, if_neg h]; rfl)
    (fun k st hI => by
      simp only [impl_heights.l0]
      rw [if_neg (by omega)]; rfl) k [0] (hts_zero s).symm hk)
  rw [this.1]
  exact congrArg some this.2

theorem paHeights_eq (s : ByteArray) (h40 : s.size ≤ 40) (k : Nat) (hk : s.size < k) : spec_paHeights.f k s = some (hts s s.size) := by
  unfold spec_paHeights.f
  have := (loop_range (fun k (st : List Int) i => spec_paHeights.l0 k s st i) s.size (fun st i => st ++ [hgt s (i + 1)]) id (fun i st => st = hts s i)
    (fun k i st hi hI => by
      subst hI
      refine ⟨?_, (hts_succ s i).symm⟩
      have hb := hgt_bound s i
      simp only [spec_paHeights.l0]
      rw [if_pos (by omega), if_pos (by omega), if_pos (by rw [hts_length]; omega), rd_hts s i i (Nat.le_refl _), w64 (x := (i : Int) + 1) (by omega) (by omega)]
      by_cases h : bt s (i : Int) = 68
      · rw [if_pos h, if_pos (by rw [hts_length]; omega), w64 (by omega) (by omega)]
        simp only [hgt, if_pos h]; rfl
      · rw [if_neg h, if_pos (by rw [hts_length]; omega), w64 (by omega) (by omega)]
        simp only [hgt, if_neg h]; rfl)
    (fun k st hI => by
      simp only [spec_paHeights.l0]
      rw [if_neg (by omega)]; rfl) k [0] (hts_zero s).symm hk)
  rw [this.1]
  exact congrArg some this.2

/-- The sum of the heights, the least height. -/
def stepS (s : ByteArray) (c : Int) (i : Nat) : Int := c + hgt s i
def stepL (s : ByteArray) (c : Int) (i : Nat) : Int := if c < hgt s i then c else hgt s i
def tot (s : ByteArray) : Int := (List.range (s.size + 1)).foldl (stepS s) 0
def low (s : ByteArray) : Int := (List.range (s.size + 1)).foldl (stepL s) 0

theorem impl_sum (s : ByteArray) (h40 : s.size ≤ 40) (k : Nat) (hk : s.size + 1 < k) : impl_AreaOfPath.l0 k 0 (hts s s.size) ((hts s s.size).length : Int) 0 = some (tot s, true) ∧ -2000 ≤ tot s ∧ tot s ≤ 2000 := by
  have := loop_range (fun k (st : Int) i => impl_AreaOfPath.l0 k st (hts s s.size) ((hts s s.size).length : Int) i) (s.size + 1) (stepS s) (fun c => (c, true)) (fun i c => -(41 * (i : Int)) ≤ c ∧ c ≤ 41 * i)
    (fun k i c hi hI => by
      have hb := hgt_bound s i
      constructor
      · have e1 := rd_hts s s.size i (by omega)
        have e3 : wrap64 ((i : Int) + 1) = ((i + 1 : Nat) : Int) := by rw [w64 (by omega) (by omega)]; omega
        have e4 : wrap64 (c + hgt s i) = c + hgt s i := w64 (by omega) (by omega)
        simp only [impl_AreaOfPath.l0, hts_length, e1, e3, e4, stepS]
        repeat rw [if_pos (by omega)]
      · unfold stepS; omega)
    (fun k c hI => by simp only [impl_AreaOfPath.l0, hts_length]; rw [if_neg (by omega)]) k 0 (by omega) hk
  refine ⟨this.1, ?_⟩
  have h2 := this.2
  unfold tot; omega

theorem spec_sum (s : ByteArray) (h40 : s.size ≤ 40) (k : Nat) (hk : s.size + 1 < k) : spec_AreaIndex.l0 k s 0 (hts s s.size) ((hts s s.size).length : Int) 0 = some (wrap64 (Int.tdiv (wrap64 (tot s - (wrap64 ((s.size : Int) / 2)))) 2), true) := by
  exact (loop_range (fun k (st : Int) i => spec_AreaIndex.l0 k s st (hts s s.size) ((hts s s.size).length : Int) i) (s.size + 1) (stepS s) (fun c => (wrap64 (Int.tdiv (wrap64 (c - (wrap64 ((s.size : Int) / 2)))) 2), true)) (fun i c => -(41 * (i : Int)) ≤ c ∧ c ≤ 41 * i)
    (fun k i c hi hI => by
      have hb := hgt_bound s i
      constructor
      · have e1 := rd_hts s s.size i (by omega)
        have e3 : wrap64 ((i : Int) + 1) = ((i + 1 : Nat) : Int) := by rw [w64 (by omega) (by omega)]; omega
        have e4 : wrap64 (c + hgt s i) = c + hgt s i := w64 (by omega) (by omega)
        simp only [spec_AreaIndex.l0, hts_length, e1, e3, e4, stepS]
        repeat rw [if_pos (by omega)]
      · unfold stepS; omega)
    (fun k c hI => by simp only [spec_AreaIndex.l0, hts_length]; rw [if_neg (by omega)]) k 0 (by omega) hk).1

theorem spec_low (s : ByteArray) (h40 : s.size ≤ 40) (k : Nat) (hk : s.size + 1 < k) : spec_paLow.l0 k 0 (hts s s.size) ((hts s s.size).length : Int) 0 = some (low s) ∧ low s ≤ 0 := by
  have := loop_range (fun k (st : Int) i => spec_paLow.l0 k st (hts s s.size) ((hts s s.size).length : Int) i) (s.size + 1) (stepL s) id (fun i c => c ≤ 0)
    (fun k i c hi hI => by
      constructor
      · have e1 := rd_hts s s.size i (by omega)
        have e3 : wrap64 ((i : Int) + 1) = ((i + 1 : Nat) : Int) := by rw [w64 (by omega) (by omega)]; omega
        have e5 : spec_l1Least.f c (hgt s i) = some (stepL s c i) := by unfold spec_l1Least.f stepL; split <;> rfl
        simp only [spec_paLow.l0, hts_length, e1, e3, e5, Option.bind_some]
        repeat rw [if_pos (by omega)]
      · unfold stepL; split <;> omega)
    (fun k c hI => by simp only [spec_paLow.l0, hts_length]; rw [if_neg (by omega)]; rfl) k 0 (by omega) hk
  exact ⟨this.1, this.2⟩

theorem impl_low (s : ByteArray) (h40 : s.size ≤ 40) (k : Nat) (hk : s.size < k) : slices_Min_int_int.f k (hts s s.size) = some (low s) := by
  unfold slices_Min_int_int.f
  rw [if_neg (by rw [hts_length]; omega), if_pos (by rw [hts_length]; omega), show rd (hts s s.size) 0 = hgt s 0 from rd_hts s s.size 0 (by omega)]
  have := (loop_range (fun k (st : Int) i => slices_Min_int_int.l0 k (hts s s.size) st (i + 1)) s.size (fun c i => stepL s c (i + 1)) id (fun _ _ => True)
    (fun k i c hi hI => by
      refine ⟨?_, trivial⟩
      have e1 := rd_hts s s.size (i + 1) (by omega)
      have e0 : ((i : Int) + 1) = ((i + 1 : Nat) : Int) := by omega
      have e3 : wrap64 (((i + 1 : Nat) : Int) + 1) = ((i + 1 : Nat) : Int) + 1 := w64 (by omega) (by omega)
      have e5 : mn c (hgt s (i + 1)) = stepL s c (i + 1) := by unfold mn stepL; split <;> split <;> omega
      simp only [slices_Min_int_int.l0, hts_length, e0, e1, e3, e5]
      repeat rw [if_pos (by omega)])
    (fun k c hI => by simp only [slices_Min_int_int.l0, hts_length]; rw [if_neg (by omega)]; rfl) k (hgt s 0) trivial hk).1
  rw [show ((0 : Int) + 1) = 1 from rfl] at this
  rw [this, low, List.range_succ_eq_map, List.foldl_cons, List.foldl_map]
  have h0 : stepL s 0 0 = hgt s 0 := by unfold stepL; rfl
  rw [h0]; rfl

theorem FnExactAreaIndex : laws_FnExactAreaIndex.Pure := by
  intro s hs
  refine ⟨100, ?_⟩
  unfold laws_FnExactAreaIndex.f
  by_cases hbig : (s.size : Int) > 1048576
  · rw [if_pos hbig]
  · rw [if_neg hbig]
    unfold spec_AreaIndex.f impl_AreaIndex.f
    rw [paGood_eq s 100 (by omega), isPath_eq s hs]
    by_cases h : s.size ≤ 40 ∧ isP s = true
    · rw [show (decide (s.size ≤ 40) && isP s) = true by simp [h]]
      simp only [Option.bind_some, if_true]
      unfold spec_paLow.f impl_isGood.f spec_paEnd.f impl_end.f impl_AreaOfPath.f
      rw [isPath_eq s hs, show (decide (s.size ≤ 40) && isP s) = true by simp [h], paHeights_eq s h.1 100 (by omega), heights_eq s h.1 100 (by omega)]
      simp only [Option.bind_some, if_true]
      obtain ⟨hl1, hl2⟩ := spec_low s h.1 100 (by omega)
      obtain ⟨hs1, hs2⟩ := impl_sum s h.1 100 (by omega)
      rw [hl1, impl_low s h.1 100 (by omega), hs1]
      simp only [Option.bind_some, hts_length]
      rw [if_pos (show 0 ≤ (s.size : Int) by omega), if_pos (show (s.size : Int) < ((s.size + 1 : Nat) : Int) by omega), rd_hts s s.size s.size (by omega)]
      simp only [Option.bind_some]
      have hj : spec_AreaIndex.j0 100 s false = some (wrap64 (Int.tdiv (wrap64 (tot s - (wrap64 ((s.size : Int) / 2)))) 2), true) := by
        simp only [spec_AreaIndex.j0]
        rw [if_neg (by decide), paHeights_eq s h.1 99 (by omega)]
        simp only [Option.bind_some]
        exact spec_sum s h.1 99 (by omega)
      have hj1 : spec_AreaIndex.j0 100 s true = some (0, false) := by simp only [spec_AreaIndex.j0]; rw [if_pos trivial]
      by_cases h1 : low s < 0
      · have h2 : (low s == 0) = false := by simp; omega
        simp only [if_pos h1, h2, hj1]; simp
      · have h2 : (low s == 0) = true := by simp; omega
        simp only [if_neg h1, h2, if_true]
        by_cases h3 : hgt s s.size = 0
        · simp only [h3, if_true, show ((0 : Int) != 0) = false from rfl, hj]; simp
        · have h4 : (hgt s s.size != 0) = true := by simpa using h3
          simp only [if_neg h3, h4, hj1]; simp
    · rw [show (decide (s.size ≤ 40) && isP s) = false by
        cases hh : (decide (s.size ≤ 40) && isP s) with
        | false => rfl
        | true => exact absurd (by simpa using hh) h]
      simp [spec_AreaIndex.j0]

end Go.Proofs.YtdnmiljhgdkloaaDoor.PuqFnExactAreaIndex
namespace Go.Proofs.YtdnmiljhgdkloaaDoor.Pure
open Go.Proofs.YtdnmiljhgdkloaaDoor.QFnExactAreaIndex
theorem FnExactAreaIndex : laws_FnExactAreaIndex.Pure := Go.Proofs.YtdnmiljhgdkloaaDoor.PuqFnExactAreaIndex.FnExactAreaIndex
end Go.Proofs.YtdnmiljhgdkloaaDoor.Pure
