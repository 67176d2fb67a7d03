/- The program's StepsAbove returns what the reference's returns, for all arguments (no condition). -/
import Derived.Test.YtdnmiljhgdkloaaDoorQFnExactStepsAbovex2
import Derived.Test.YtdnmiljhgdkloaaDoorZpl
namespace Go.Proofs.YtdnmiljhgdkloaaDoor.PuqFnExactStepsAbove
open Go.RowKit Go.Proofs.YtdnmiljhgdkloaaDoor.QFnExactStepsAbove Go.Proofs.YtdnmiljhgdkloaaDoorW.PrintWords Go.Proofs.YtdnmiljhgdkloaaDoorW.PrintLast Go.Proofs.YtdnmiljhgdkloaaDoorPl
set_option linter.unusedVariables false

theorem paGood_l (s : ByteArray) (hn : s.size ≤ 1048576) (d : Nat) : ∀ (k i : Nat), i + d = s.size → d < k → spec_paGood.l0 k s (i : Int) = some ((List.range' i d).all fun j => decide (bt s (j : Int) = 85 ∨ bt s (j : Int) = 68)) := by
  induction d with
  | zero =>
    intro k i h1 h2
    obtain ⟨k, rfl⟩ : ∃ m, k = m + 1 := ⟨k - 1, by omega⟩
    simp only [spec_paGood.l0]
    rw [if_neg (by omega)]
    rfl
  | succ d ih =>
    intro k i h1 h2
    obtain ⟨k, rfl⟩ : ∃ m, k = m + 1 := ⟨k - 1, by omega⟩
    simp only [spec_paGood.l0]
    rw [if_pos (by omega), if_pos (by omega), w64 (by omega) (by omega), show ((i : Int) + 1) = ((i + 1 : Nat) : Int) by omega, ih k (i + 1) (by omega) (by omega), List.range'_succ, List.all_cons]
    by_cases h' : bt s (i : Int) = 85
    · rw [if_pos h', decide_eq_true (.inl h'), Bool.true_and]
    · rw [if_neg h']
      by_cases h : bt s (i : Int) = 68
      · rw [if_pos h, decide_eq_true (.inr h), Bool.true_and]
      · rw [if_neg h, decide_eq_false (fun H => H.elim h' h), Bool.false_and]

theorem paGood_eq (s : ByteArray) (k : Nat) (hk : 41 < k) : spec_paGood.f k s = some (decide (s.size ≤ 40) && isP s) := by
  unfold spec_paGood.f
  by_cases h : s.size ≤ 40
  · rw [if_neg (by omega)]
    have := paGood_l s (by omega) s.size k 0 (by omega) (by omega)
    rw [show ((0 : Nat) : Int) = 0 from rfl] at this
    rw [this]
    congr 1
    rw [Bool.eq_iff_iff, List.all_eq_true]
    simp only [decide_eq_true_eq, Bool.and_eq_true]
    rw [all_of_bt]
    exact ⟨fun H => ⟨h, fun i hi => H i (by rw [List.mem_range'_1]; omega)⟩, fun H i hi => H.2 i (by rw [List.mem_range'_1] at hi; omega)⟩
  · rw [if_pos (by omega)]
    simp [h]

theorem isPath_eq (s : ByteArray) (hs : s.size ≤ 140737488351232) : impl_IsPath.f s = some (decide (s.size ≤ 40) && isP s) := by
  unfold impl_IsPath.f
  by_cases h : s.size ≤ 40
  · rw [if_pos (by omega)]
    unfold strings_Trim.f
    rw [if_pos (by omega), if_pos (by decide), if_pos (by decide)]
    simp only [Option.bind_some, Option.some.injEq]
    rw [trim_eq]
    simp only [h, decide_true, Bool.true_and]
    unfold isP
    congr 1
    funext b
    rw [Bool.eq_iff_iff]
    simp
  · rw [if_neg (by omega)]
    simp [h]

theorem heights_eq (s : ByteArray) (h40 : s.size ≤ 40) (k : Nat) (hk : s.size < k) : impl_heights.f k s = some (hts s s.size) := by
  unfold impl_heights.f
  have := (loop_range (fun k (st : List Int) i => impl_heights.l0 k s st (s.size : Int) i) s.size (fun st i => st ++ [hgt s (i + 1)]) id (fun i st => st = hts s i)
    (fun k i st hi hI => by
      subst hI
      refine ⟨?_, (hts_succ s i).symm⟩
      have hb := hgt_bound s i
      simp only [impl_heights.l0]
      rw [if_pos (by omega), if_pos (by omega), if_pos (by omega), rd_hts s i i (Nat.le_refl _), w64 (x := (i : Int) + 1) (by omega) (by omega)]
      by_cases h : bt s (i : Int) = 68
      · rw [if_pos h, if_pos (by rw [hts_length]; omega), if_pos (by rw [hts_length]; omega), w64 (by omega) (by omega)]
        simp only [hgt, if_pos h]; rfl
      · rw [if_neg h, if_pos (by rw [hts_length]; omega), if_pos (by rw [hts_length]; omega), w64 (by omega) (by omega)]
        simp only [hgt, if_neg h]; rfl)
    (fun k st hI => by
      simp only [impl_heights.l0]
      rw [if_neg (by omega)]; rfl) k [0] (hts_zero s).symm hk)
  rw [this.1]
  exact congrArg some this.2

theorem paHeights_eq (s : ByteArray) (h40 : s.size ≤ 40) (k : Nat) (hk : s.size < k) : spec_paHeights.f k s = some (hts s s.size) := by
  unfold spec_paHeights.f
  have := (loop_range (fun k (st : List Int) i => spec_paHeights.l0 k s st i) s.size (fun st i => st ++ [hgt s (i + 1)]) id (fun i st => st = hts s i)
    (fun k i st hi hI => by
      subst hI
      refine ⟨?_, (hts_succ s i).symm⟩
      have hb := hgt_bound s i
      simp only [spec_paHeights.l0]
      rw [if_pos (by omega), if_pos (by omega), if_pos (by rw [hts_length]; omega), rd_hts s i i (Nat.le_refl _), w64 (x := (i : Int) + 1) (by omega) (by omega)]
      by_cases h : bt s (i : Int) = 68
      · rw [if_pos h, if_pos (by rw [hts_length]; omega), w64 (by omega) (by omega)]
        simp only [hgt, if_pos h]; rfl
      · rw [if_neg h, if_pos (by rw [hts_length]; omega), w64 (by omega) (by omega)]
        simp only [hgt, if_neg h]; rfl)
    (fun k st hI => by
      simp only [spec_paHeights.l0]
      rw [if_neg (by omega)]; rfl) k [0] (hts_zero s).symm hk)
  rw [this.1]
  exact congrArg some this.2

/-- One more, where both heights are at least 0. -/
def stepA (s : ByteArray) (c : Int) (i : Nat) : Int := if hgt s i ≥ 0 then (if hgt s (i + 1) ≥ 0 then c + 1 else c) else c

theorem impl_l (s : ByteArray) (h40 : s.size ≤ 40) (k : Nat) (hk : s.size < k) : impl_StepsAbove.l0 k 0 (hts s s.size) (s.size : Int) 0 = some ((List.range s.size).foldl (stepA s) 0, true) := by
  exact (loop_range (fun k (st : Int) i => impl_StepsAbove.l0 k st (hts s s.size) (s.size : Int) i) s.size (stepA s) (fun c => (c, true)) (fun i c => 0 ≤ c ∧ c ≤ i)
    (fun k i c hi hI => by
      constructor
      · have e1 := rd_hts s s.size i (by omega)
        have e2 := rd_hts s s.size (i + 1) (by omega)
        have e3 : wrap64 ((i : Int) + 1) = ((i + 1 : Nat) : Int) := by rw [w64 (by omega) (by omega)]; omega
        have e4 : wrap64 (c + 1) = c + 1 := w64 (by omega) (by omega)
        simp only [impl_StepsAbove.l0, hts_length, e1, e3, e2, e4, stepA]
        by_cases h1 : hgt s i ≥ 0
        · by_cases h2 : hgt s (i + 1) ≥ 0
          · simp only [if_pos h1, if_pos h2]; repeat rw [if_pos (by omega)]
          · simp only [if_pos h1, if_neg h2]; repeat rw [if_pos (by omega)]
        · simp only [if_neg h1]; repeat rw [if_pos (by omega)]
      · unfold stepA; split <;> (try split) <;> omega)
    (fun k c hI => by simp only [impl_StepsAbove.l0]; rw [if_neg (by omega)]) k 0 (by omega) hk).1

theorem spec_l (s : ByteArray) (h40 : s.size ≤ 40) (k : Nat) (hk : s.size < k) : spec_reAbove.l0 k 0 (hts s s.size) 1 = some ((List.range s.size).foldl (stepA s) 0) := by
  have := (loop_range (fun k (st : Int) i => spec_reAbove.l0 k st (hts s s.size) (i + 1)) s.size (stepA s) id (fun i c => 0 ≤ c ∧ c ≤ i)
    (fun k i c hi hI => by
      constructor
      · have e1 := rd_hts s s.size i (by omega)
        have e2 := rd_hts s s.size (i + 1) (by omega)
        have e0 : ((i : Int) + 1) = ((i + 1 : Nat) : Int) := by omega
        have e3 : wrap64 (((i + 1 : Nat) : Int) - 1) = (i : Int) := by rw [w64 (by omega) (by omega)]; omega
        have e5 : wrap64 (((i + 1 : Nat) : Int) + 1) = ((i + 1 : Nat) : Int) + 1 := w64 (by omega) (by omega)
        have e4 : wrap64 (c + 1) = c + 1 := w64 (by omega) (by omega)
        simp only [spec_reAbove.l0, hts_length, e0, e1, e3, e2, e4, e5, stepA]
        by_cases h1 : hgt s i ≥ 0
        · by_cases h2 : hgt s (i + 1) ≥ 0
          · simp only [if_pos h1, if_pos h2]; repeat rw [if_pos (by omega)]
          · simp only [if_pos h1, if_neg h2]; repeat rw [if_pos (by omega)]
        · simp only [if_neg h1]; repeat rw [if_pos (by omega)]
      · unfold stepA; split <;> (try split) <;> omega)
    (fun k c hI => by simp only [spec_reAbove.l0]; rw [if_neg (by rw [hts_length]; omega)]; rfl) k 0 (by omega) hk).1
  exact this

theorem FnExactStepsAbove : laws_FnExactStepsAbove.Pure := by
  intro s hs
  refine ⟨100, ?_⟩
  unfold laws_FnExactStepsAbove.f
  by_cases hbig : (s.size : Int) > 1048576
  · rw [if_pos hbig]
  · rw [if_neg hbig]
    unfold spec_StepsAbove.f impl_StepsAbove.f
    rw [paGood_eq s 100 (by omega), isPath_eq s hs]
    by_cases h : s.size ≤ 40 ∧ isP s = true
    · rw [show (decide (s.size ≤ 40) && isP s) = true by simp [h]]
      simp only [Option.bind_some, if_true]
      unfold spec_reAbove.f
      rw [paHeights_eq s h.1 100 (by omega), heights_eq s h.1 100 (by omega)]
      simp only [Option.bind_some]
      rw [spec_l s h.1 100 (by omega), impl_l s h.1 100 (by omega)]
      simp
    · rw [show (decide (s.size ≤ 40) && isP s) = false by
        cases hh : (decide (s.size ≤ 40) && isP s) with
        | false => rfl
        | true => exact absurd (by simpa using hh) h]
      simp

end Go.Proofs.YtdnmiljhgdkloaaDoor.PuqFnExactStepsAbove
namespace Go.Proofs.YtdnmiljhgdkloaaDoor.Pure
open Go.Proofs.YtdnmiljhgdkloaaDoor.QFnExactStepsAbove
theorem FnExactStepsAbove : laws_FnExactStepsAbove.Pure := Go.Proofs.YtdnmiljhgdkloaaDoor.PuqFnExactStepsAbove.FnExactStepsAbove
end Go.Proofs.YtdnmiljhgdkloaaDoor.Pure
