/- The program's LastReturn returns what the reference's returns, for all arguments (no condition). -/
import Derived.Test.YtdnmiljhgdkloaaDoorQFnExactLastReturnx2
import Derived.Test.YtdnmiljhgdkloaaDoorZpl
namespace Go.Proofs.YtdnmiljhgdkloaaDoor.PuqFnExactLastReturn
open Go.RowKit Go.Proofs.YtdnmiljhgdkloaaDoor.QFnExactLastReturn Go.Proofs.YtdnmiljhgdkloaaDoorW.PrintWords Go.Proofs.YtdnmiljhgdkloaaDoorW.PrintLast Go.Proofs.YtdnmiljhgdkloaaDoorPl
set_option linter.unusedVariables false

theorem paGood_l (s : ByteArray) (hn : s.size ≤ 1048576) (d : Nat) : ∀ (k i : Nat), i + d = s.size → d < k → spec_paGood.l0 k s (i : Int) = some ((List.range' i d).all fun j => decide (bt s (j : Int) = 85 ∨ bt s (j : Int) = 68)) := by
  induction d with
  | zero =>
    intro k i h1 h2
    obtain ⟨k, rfl⟩ : ∃ m, k = m + 1 := ⟨k - 1, by omega⟩
    simp only [spec_paGood.l0]
    rw [if_neg (by omega)]
    rfl
  | succ d ih =>
    intro k i h1 h2
    obtain ⟨k, rfl⟩ : ∃ m, k = m + 1 := ⟨k - 1, by omega⟩
    simp only [spec_paGood.l0]
    rw [if_pos (by omega), if_pos (by omega), w64 (by omega) (by omega), show ((i : Int) + 1) = ((i + 1 : Nat) : Int) by omega, ih k (i + 1) (by omega) (by omega), List.range'_succ, List.all_cons]
    by_cases h' : bt s (i : Int) = 85
    · rw [if_pos h', decide_eq_true (.inl h'), Bool.true_and]
    · rw [if_neg h']
      by_cases h : bt s (i : Int) = 68
      · rw [if_pos h, decide_eq_true (.inr h), Bool.true_and]
      · rw [if_neg h, decide_eq_false (fun H => H.elim h' h), Bool.false_and]

theorem paGood_eq (s : ByteArray) (k : Nat) (hk : 41 < k) : spec_paGood.f k s = some (decide (s.size ≤ 40) && isP s) := by
  unfold spec_paGood.f
  by_cases h : s.size ≤ 40
  · rw [if_neg (by omega)]
    have := paGood_l s (by omega) s.size k 0 (by omega) (by omega)
    rw [show ((0 : Nat) : Int) = 0 from rfl] at this
    rw [this]
    congr 1
    rw [Bool.eq_iff_iff, List.all_eq_true]
    simp only [decide_eq_true_eq, Bool.and_eq_true]
    rw [all_of_bt]
    exact ⟨fun H => ⟨h, fun i hi => H i (by rw [List.mem_range'_1]; omega)⟩, fun H i hi => H.2 i (by rw [List.mem_range'_1] at hi; omega)⟩
  · rw [if_pos (by omega)]
    simp [h]

theorem isPath_eq (s : ByteArray) (hs : s.size ≤ 140737488351232) : impl_IsPath.f s = some (decide (s.size ≤ 40) && isP s) := by
  unfold impl_IsPath.f
  by_cases h : s.size ≤ 40
  · rw [if_pos (by omega)]
    unfold strings_Trim.f
    rw [if_pos (by omega), if_pos (by decide), if_pos (by decide)]
    simp only [Option.bind_some, Option.some.injEq]
    rw [trim_eq]
    simp only [h, decide_true, Bool.true_and]
    unfold isP
    congr 1
    funext b
    rw [Bool.eq_iff_iff]
    simp
  · rw [if_neg (by omega)]
    simp [h]

theorem heights_eq (s : ByteArray) (h40 : s.size ≤ 40) (k : Nat) (hk : s.size < k) : impl_heights.f k s = some (hts s s.size) := by
  unfold impl_heights.f
  have := (loop_range (fun k (st : List Int) i => impl_heights.l0 k s st (s.size : Int) i) s.size (fun st i => st ++ [hgt s (i + 1)]) id (fun i st => st = hts s i)
    (fun k i st hi hI => by
      subst hI
      refine ⟨?_, (hts_succ s i).symm⟩
      have hb := hgt_bound s i
      simp only [impl_heights.l0]
      rw [if_pos (by omega), if_pos (by omega), if_pos (by omega), rd_hts s i i (Nat.le_refl _), w64 (x := (i : Int) + 1) (by omega) (by omega)]
      by_cases h : bt s (i : Int) = 68
      · rw [if_pos h, if_pos (by rw [hts_length]; omega), if_pos (by rw [hts_length]; omega), w64 (by omega) (by omega)]
        simp only [hgt, if_pos h]; rfl
      · rw [if_neg h, if_pos (by rw [hts_length]; omega), if_pos (by rw [hts_length]; omega), w64 (by omega) (by omega)]
        simp only [hgt, if_neg h]; rfl)
    (fun k st hI => by
      simp only [impl_heights.l0]
      rw [if_neg (by omega)]; rfl) k [0] (hts_zero s).symm hk)
  rw [this.1]
  exact congrArg some this.2

theorem paHeights_eq (s : ByteArray) (h40 : s.size ≤ 40) (k : Nat) (hk : s.size < k) : spec_paHeights.f k s = some (hts s s.size) := by
  unfold spec_paHeights.f
  have := (loop_range (fun k (st : List Int) i => spec_paHeights.l0 k s st i) s.size (fun st i => st ++ [hgt s (i + 1)]) id (fun i st => st = hts s i)
    (fun k i st hi hI => by
      subst hI
      refine ⟨?_, (hts_succ s i).symm⟩
      have hb := hgt_bound s i
      simp only [spec_paHeights.l0]
      rw [if_pos (by omega), if_pos (by omega), if_pos (by rw [hts_length]; omega), rd_hts s i i (Nat.le_refl _), w64 (x := (i : Int) + 1) (by omega) (by omega)]
      by_cases h : bt s (i : Int) = 68
      · rw [if_pos h, if_pos (by rw [hts_length]; omega), w64 (by omega) (by omega)]
        simp only [hgt, if_pos h]; rfl
      · rw [if_neg h, if_pos (by rw [hts_length]; omega), w64 (by omega) (by omega)]
        simp only [hgt, if_neg h]; rfl)
    (fun k st hI => by
      simp only [spec_paHeights.l0]
      rw [if_neg (by omega)]; rfl) k [0] (hts_zero s).symm hk)
  rw [this.1]
  exact congrArg some this.2

/-- The returns, as both sides collect them. -/
def stepR (s : ByteArray) (acc : List Int) (i : Nat) : List Int := if i > 0 ∧ hgt s i = 0 then acc ++ [(i : Int)] else acc
def rets (s : ByteArray) : List Int := (List.range (s.size + 1)).foldl (stepR s) []

theorem rets_l (s : ByteArray) (h40 : s.size ≤ 40) (f : Nat → List Int → List Int → Int → Int → Option (List Int))
    (hf : ∀ k x3 x8 x9 x10, f (k + 1) x3 x8 x9 x10 = if x10 < x9 then (if 0 ≤ x10 then (if x10 < (x8.length : Int) then (if x10 > 0 then (if (rd x8 x10) = 0 then (if x3.length < 17592186044416 then (f k (x3 ++ [x10]) x8 x9 (wrap64 (x10 + 1))) else (none)) else (f k x3 x8 x9 (wrap64 (x10 + 1)))) else (f k x3 x8 x9 (wrap64 (x10 + 1)))) else (none)) else (none)) else (some x3))
    (k : Nat) (hk : s.size + 1 < k) : f k [] (hts s s.size) ((hts s s.size).length : Int) 0 = some (rets s) ∧ (rets s).length ≤ s.size + 1 := by
  have := loop_range (fun k (st : List Int) i => f k st (hts s s.size) ((hts s s.size).length : Int) i) (s.size + 1) (stepR s) id (fun i st => st.length ≤ i)
    (fun k i st hi hI => by
      have e1 := rd_hts s s.size i (by omega)
      have e3 : wrap64 ((i : Int) + 1) = ((i + 1 : Nat) : Int) := by rw [w64 (by omega) (by omega)]; omega
      constructor
      · simp only [hf, hts_length, e1, e3, stepR]
        by_cases h1 : i > 0
        · by_cases h2 : hgt s i = 0
          · simp only [if_pos (show i > 0 ∧ hgt s i = 0 from ⟨h1, h2⟩), if_pos h2]; repeat rw [if_pos (by omega)]
          · simp only [if_neg (show ¬ (i > 0 ∧ hgt s i = 0) from fun h => h2 h.2), if_neg h2]; repeat rw [if_pos (by omega)]
        · simp only [if_neg (show ¬ (i > 0 ∧ hgt s i = 0) from fun h => h1 h.1)]
          rw [if_pos (by omega), if_pos (by omega), if_pos (by omega), if_neg (by omega)]
      · unfold stepR; split
        · rw [List.length_append]; simp only [List.length_cons, List.length_nil]; omega
        · omega)
    (fun k st hI => by simp only [hf, hts_length]; rw [if_neg (by omega)]; rfl) k [] (by simp) hk
  exact ⟨this.1, this.2⟩

theorem returns_eq (s : ByteArray) (h40 : s.size ≤ 40) (k : Nat) (hk : 50 < k) : impl_returns.f k s = some (rets s) := by
  unfold impl_returns.f
  rw [heights_eq s h40 k (by omega)]
  exact (rets_l s h40 impl_returns.l0 (fun _ _ _ _ _ => by rw [impl_returns.l0]) k (by omega)).1

theorem paReturns_eq (s : ByteArray) (h40 : s.size ≤ 40) (k : Nat) (hk : 50 < k) : spec_paReturns.f k s = some (rets s) := by
  unfold spec_paReturns.f
  rw [paHeights_eq s h40 k (by omega)]
  exact (rets_l s h40 spec_paReturns.l0 (fun _ _ _ _ _ => by rw [spec_paReturns.l0]) k (by omega)).1

theorem rets_length (s : ByteArray) (h40 : s.size ≤ 40) : (rets s).length ≤ s.size + 1 :=
  (rets_l s h40 spec_paReturns.l0 (fun _ _ _ _ _ => by rw [spec_paReturns.l0]) 100 (by omega)).2

theorem last_l (xs : List Int) (hx : xs.length ≤ 41) (k : Nat) (hk : 50 < k) : spec_LastReturn.l0 k 0 xs (xs.length : Int) 0 = some (if xs.length = 0 then 0 else rd xs ((xs.length : Int) - 1), true) := by
  have := loop_range (fun k (st : Int) i => spec_LastReturn.l0 k st xs (xs.length : Int) i) xs.length (fun _ i => rd xs i) (fun c => (c, true)) (fun i c => c = if i = 0 then 0 else rd xs ((i : Int) - 1))
    (fun k i c hi hI => by
      constructor
      · have e3 : wrap64 ((i : Int) + 1) = ((i + 1 : Nat) : Int) := by rw [w64 (by omega) (by omega)]; omega
        simp only [spec_LastReturn.l0, e3]
        repeat rw [if_pos (by omega)]
      · rw [if_neg (by omega)]; congr 1; omega)
    (fun k c hI => by simp only [spec_LastReturn.l0]; rw [if_neg (by omega)]) k 0 rfl (by omega)
  rw [this.1, this.2]

theorem FnExactLastReturn : laws_FnExactLastReturn.Pure := by
  intro s hs
  refine ⟨100, ?_⟩
  unfold laws_FnExactLastReturn.f
  by_cases hbig : (s.size : Int) > 1048576
  · rw [if_pos hbig]
  · rw [if_neg hbig]
    unfold spec_LastReturn.f impl_LastReturn.f
    rw [paGood_eq s 100 (by omega), isPath_eq s hs]
    by_cases h : s.size ≤ 40 ∧ isP s = true
    · rw [show (decide (s.size ≤ 40) && isP s) = true by simp [h]]
      simp only [Option.bind_some, if_true]
      rw [paReturns_eq s h.1 100 (by omega), returns_eq s h.1 100 (by omega)]
      simp only [Option.bind_some]
      have hl := rets_length s h.1
      rw [last_l _ (by omega) 100 (by omega)]
      by_cases h0 : (rets s).length = 0
      · simp only [if_pos h0, if_pos (show ((rets s).length : Int) = 0 by omega)]; simp
      · rw [w64 (x := ((rets s).length : Int) - 1) (by omega) (by omega)]
        simp only [if_neg h0, if_neg (show ¬ ((rets s).length : Int) = 0 by omega), if_pos (show 0 ≤ ((rets s).length : Int) - 1 by omega), if_pos (show ((rets s).length : Int) - 1 < ((rets s).length : Int) by omega)]; simp
    · rw [show (decide (s.size ≤ 40) && isP s) = false by
        cases hh : (decide (s.size ≤ 40) && isP s) with
        | false => rfl
        | true => exact absurd (by simpa using hh) h]
      simp

end Go.Proofs.YtdnmiljhgdkloaaDoor.PuqFnExactLastReturn
namespace Go.Proofs.YtdnmiljhgdkloaaDoor.Pure
open Go.Proofs.YtdnmiljhgdkloaaDoor.QFnExactLastReturn
theorem FnExactLastReturn : laws_FnExactLastReturn.Pure := Go.Proofs.YtdnmiljhgdkloaaDoor.PuqFnExactLastReturn.FnExactLastReturn
end Go.Proofs.YtdnmiljhgdkloaaDoor.Pure
