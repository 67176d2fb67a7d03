/- The program's RecordsOfPath returns what the reference's returns, for all arguments (no condition). -/
import Derived.Test.YtdnmiljhgdkloaaDoorQFnExactRecordsOfPathx2
import Derived.Test.YtdnmiljhgdkloaaDoorZpl
namespace Go.Proofs.YtdnmiljhgdkloaaDoor.PuqFnExactRecordsOfPath
open Go.RowKit Go.Proofs.YtdnmiljhgdkloaaDoor.QFnExactRecordsOfPath Go.Proofs.YtdnmiljhgdkloaaDoorW.PrintWords Go.Proofs.YtdnmiljhgdkloaaDoorW.PrintLast Go.Proofs.YtdnmiljhgdkloaaDoorPl
set_option linter.unusedVariables false

theorem paGood_l (s : ByteArray) (hn : s.size ≤ 1048576) (d : Nat) : ∀ (k i : Nat), i + d = s.size → d < k → spec_paGood.l0 k s (i : Int) = some ((List.range' i d).all fun j => decide (bt s (j : Int) = 85 ∨ bt s (j : Int) = 68)) := by
  induction d with
  | zero =>
    intro k i h1 h2
    obtain ⟨k, rfl⟩ : ∃ m, k = m + 1 := ⟨k - 1, by omega⟩
    simp only [spec_paGood.l0]
    rw [if_neg (by omega)]
    rfl
  | succ d ih =>
    intro k i h1 h2
    obtain ⟨k, rfl⟩ : ∃ m, k = m + 1 := ⟨k - 1, by omega⟩
    simp only [spec_paGood.l0]
    rw [if_pos (by omega), if_pos (by omega), w64 (by omega) (by omega), show ((i : Int) + 1) = ((i + 1 : Nat) : Int) by omega, ih k (i + 1) (by omega) (by omega), List.range'_succ, List.all_cons]
    by_cases h' : bt s (i : Int) = 85
    · rw [if_pos h', decide_eq_true (.inl h'), Bool.true_and]
    · rw [if_neg h']
      by_cases h : bt s (i : Int) = 68
      · rw [if_pos h, decide_eq_true (.inr h), Bool.true_and]
      · rw [if_neg h, decide_eq_false (fun H => H.elim h' h), Bool.false_and]

theorem paGood_eq (s : ByteArray) (k : Nat) (hk : 41 < k) : spec_paGood.f k s = some (decide (s.size ≤ 40) && isP s) := by
  unfold spec_paGood.f
  by_cases h : s.size ≤ 40
  · rw [if_neg (by omega)]
    have := paGood_l s (by omega) s.size k 0 (by omega) (by omega)
    rw [show ((0 : Nat) : Int) = 0 from rfl] at this
    rw [this]
    congr 1
    rw [Bool.eq_iff_iff, List.all_eq_true]
    simp only [decide_eq_true_eq, Bool.and_eq_true]
    rw [all_of_bt]
    exact ⟨fun H => ⟨h, fun i hi => H i (by rw [List.mem_range'_1]; omega)⟩, fun H i hi => H.2 i (by rw [List.mem_range'_1] at hi; omega)⟩
  · rw [if_pos (by omega)]
    simp [h]

theorem isPath_eq (s : ByteArray) (hs : s.size ≤ 140737488351232) : impl_IsPath.f s = some (decide (s.size ≤ 40) && isP s) := by
  unfold impl_IsPath.f
  by_cases h : s.size ≤ 40
  · rw [if_pos (by omega)]
    unfold strings_Trim.f
    rw [if_pos (by omega), if_pos (by decide), if_pos (by decide)]
    simp only [Option.bind_some, Option.some.injEq]
    rw [trim_eq]
    simp only [h, decide_true, Bool.true_and]
    unfold isP
    congr 1
    funext b
    rw [Bool.eq_iff_iff]
    simp
  · rw [if_neg (by omega)]
    simp [h]

theorem heights_eq (s : ByteArray) (h40 : s.size ≤ 40) (k : Nat) (hk : s.size < k) : impl_heights.f k s = some (hts s s.size) := by
  unfold impl_heights.f
  have := (loop_range (fun k (st : List Int) i => impl_heights.l0 k s st (s.size : Int) i) s.size (fun st i => st ++ [hgt s (i + 1)]) id (fun i st => st = hts s i)
    (fun k i st hi hI => by
      subst hI
      refine ⟨?_, (hts_succ s i).symm⟩
      have hb := hgt_bound s i
      simp only [impl_heights.l0]
      rw [if_pos (by omega), if_pos (by omega), if_pos (by omega), rd_hts s i i (Nat.le_refl _), w64 (x := (i : Int) + 1) (by omega) (by omega)]
      by_cases h : bt s (i : Int) = 68
      · rw [if_pos h, if_pos (by rw [hts_length]; omega), if_pos (by rw [hts_length]; omega), w64 (by omega) (by omega)]
        simp only [hgt, if_pos h]; rfl
      · rw [if_neg h, if_pos (by rw [hts_length]; omega), if_pos (by rw [hts_length]; omega), w64 (by omega) (by omega)]
        simp only [hgt, if_neg h]; rfl)
    (fun k st hI => by
      simp only [impl_heights.l0]
      rw [if_neg (by omega)]; rfl) k [0] (hts_zero s).symm hk)
  rw [this.1]
  exact congrArg some this.2

theorem paHeights_eq (s : ByteArray) (h40 : s.size ≤ 40) (k : Nat) (hk : s.size < k) : spec_paHeights.f k s = some (hts s s.size) := by
  unfold spec_paHeights.f
  have := (loop_range (fun k (st : List Int) i => spec_paHeights.l0 k s st i) s.size (fun st i => st ++ [hgt s (i + 1)]) id (fun i st => st = hts s i)
    (fun k i st hi hI => by
      subst hI
      refine ⟨?_, (hts_succ s i).symm⟩
      have hb := hgt_bound s i
      simp only [spec_paHeights.l0]
      rw [if_pos (by omega), if_pos (by omega), if_pos (by rw [hts_length]; omega), rd_hts s i i (Nat.le_refl _), w64 (x := (i : Int) + 1) (by omega) (by omega)]
      by_cases h : bt s (i : Int) = 68
      · rw [if_pos h, if_pos (by rw [hts_length]; omega), w64 (by omega) (by omega)]
        simp only [hgt, if_pos h]; rfl
      · rw [if_neg h, if_pos (by rw [hts_length]; omega), w64 (by omega) (by omega)]
        simp only [hgt, if_neg h]; rfl)
    (fun k st hI => by
      simp only [spec_paHeights.l0]
      rw [if_neg (by omega)]; rfl) k [0] (hts_zero s).symm hk)
  rw [this.1]
  exact congrArg some this.2

theorem eqI_self (l : List Int) (hl : l.length ≤ 1048577) (k : Nat) (hk : l.length < k) : laws_eqIntS.f k l l = some true := by
  unfold laws_eqIntS.f
  rw [if_pos rfl]
  exact (loop_range (fun k (_ : Unit) i => laws_eqIntS.l0 k l l i) l.length (fun _ _ => ()) (fun _ => true) (fun _ _ => True)
    (fun k i _ hi _ => by
      refine ⟨?_, trivial⟩
      have e3 : wrap64 ((i : Int) + 1) = ((i + 1 : Nat) : Int) := by rw [w64 (by omega) (by omega)]; omega
      simp only [laws_eqIntS.l0, e3, if_true]
      repeat rw [if_pos (by omega)])
    (fun k _ _ => by simp only [laws_eqIntS.l0]; rw [if_neg (by omega)]) k () trivial hk).1

/-- What the marks are. -/
def Marked (a : Int) (n : Nat) (xs : List Int) : Prop := xs.length = n ∧ ∀ j : Nat, j < n → rd xs (j : Int) = a + j

theorem markI (l : List Int) (a : Int) (hl : l.length ≤ 1048577) (ha : 0 ≤ a) (ha' : a ≤ 1000000000000) (k : Nat) (hk : l.length < k) : ∃ xs, laws_markIntS.f k l a = some (a + l.length, xs) ∧ Marked a l.length xs := by
  unfold laws_markIntS.f
  have := loop_range (fun k (st : List Int × Int) i => laws_markIntS.l0 k st.1 st.2 i) l.length (fun st i => (st.1.set i st.2, st.2 + 1)) (fun st => (st.2, st.1)) (fun i st => st.1.length = l.length ∧ st.2 = a + i ∧ ∀ j : Nat, j < i → rd st.1 (j : Int) = a + j)
    (fun k i st hi hI => by
      obtain ⟨xs, x⟩ := st
      obtain ⟨h1, h2, h3⟩ := hI
      simp only at h1 h2 h3
      refine ⟨?_, ?_, ?_, ?_⟩
      · have e3 : wrap64 ((i : Int) + 1) = ((i + 1 : Nat) : Int) := by rw [w64 (by omega) (by omega)]; omega
        have e4 : wrap64 (x + 1) = x + 1 := w64 (by omega) (by omega)
        simp only [laws_markIntS.l0, e3, e4, Int.toNat_natCast]
        repeat rw [if_pos (by omega)]
      · simpa using h1
      · simp only; omega
      · intro j hj
        simp only
        by_cases e : j = i
        · subst e
          rw [rd_nat _ _ (by rw [List.length_set]; omega), List.getElem_set_self]; omega
        · rw [rd_nat _ _ (by rw [List.length_set]; omega), List.getElem_set_ne (by omega), ← rd_nat _ _ (by omega)]
          exact h3 j (by omega))
    (fun k st hI => by simp only [laws_markIntS.l0]; rw [if_neg (by omega)]) k (l, a) ⟨rfl, by simp, fun j hj => by omega⟩ hk
  obtain ⟨h1, h2⟩ := this
  refine ⟨_, ?_, h2.1, h2.2.2⟩
  rw [show laws_markIntS.l0 k l a 0 = _ from h1, h2.2.1]

theorem heldI (xs : List Int) (a : Int) (n : Nat) (hm : Marked a n xs) (hn : n ≤ 1048577) (ha : 0 ≤ a) (ha' : a ≤ 1000000000000) (k : Nat) (hk : n < k) : laws_heldIntS.f k xs a = some (a + n) := by
  unfold laws_heldIntS.f
  obtain ⟨h1, h2⟩ := hm
  have := loop_range (fun k (st : Int) i => laws_heldIntS.l0 k xs st i) n (fun st _ => st + 1) id (fun i st => st = a + i)
    (fun k i st hi hI => by
      subst hI
      refine ⟨?_, by omega⟩
      have e3 : wrap64 ((i : Int) + 1) = ((i + 1 : Nat) : Int) := by rw [w64 (by omega) (by omega)]; omega
      have e4 : wrap64 (a + i + 1) = a + i + 1 := w64 (by omega) (by omega)
      simp only [laws_heldIntS.l0, e3, e4, h2 i hi, if_true]
      repeat rw [if_pos (by omega)])
    (fun k st hI => by simp only [laws_heldIntS.l0]; rw [if_neg (by omega)]; rfl) k a (by simp) hk
  rw [this.1]
  exact congrArg some this.2

/-- A record more, and the greatest height so far. -/
def stepC (s : ByteArray) (st : List Int × Int) (i : Nat) : List Int × Int := if hgt s i > st.2 then (st.1 ++ [(i : Int)], hgt s i) else st
def recs (s : ByteArray) : List Int := ((List.range (s.size + 1)).foldl (stepC s) ([], 0)).1

theorem recs_l (s : ByteArray) (h40 : s.size ≤ 40) (f : Nat → List Int → Int → List Int → Int → Int → Option (List Int × Bool))
    (hf : ∀ k x4 x5 x13 x14 x15, f (k + 1) x4 x5 x13 x14 x15 = if x15 < x14 then (if 0 ≤ x15 then (if x15 < (x13.length : Int) then (if (rd x13 x15) > x5 then (if x4.length < 17592186044416 then (f k (x4 ++ [x15]) (rd x13 x15) x13 x14 (wrap64 (x15 + 1))) else (none)) else (f k x4 x5 x13 x14 (wrap64 (x15 + 1)))) else (none)) else (none)) else (some (x4, true)))
    (k : Nat) (hk : s.size + 1 < k) : f k [] 0 (hts s s.size) ((hts s s.size).length : Int) 0 = some (recs s, true) ∧ (recs s).length ≤ s.size + 1 := by
  have := loop_range (fun k (st : List Int × Int) i => f k st.1 st.2 (hts s s.size) ((hts s s.size).length : Int) i) (s.size + 1) (stepC s) (fun st => (st.1, true)) (fun i st => st.1.length ≤ i)
    (fun k i st hi hI => by
      have e1 := rd_hts s s.size i (by omega)
      have e3 : wrap64 ((i : Int) + 1) = ((i + 1 : Nat) : Int) := by rw [w64 (by omega) (by omega)]; omega
      constructor
      · simp only [hf, hts_length, e1, e3, stepC]
        by_cases h1 : hgt s i > st.2
        · simp only [if_pos h1]; repeat rw [if_pos (by omega)]
        · simp only [if_neg h1]; repeat rw [if_pos (by omega)]
      · unfold stepC; split
        · rw [List.length_append]; simp only [List.length_cons, List.length_nil]; omega
        · omega)
    (fun k st hI => by simp only [hf, hts_length]; rw [if_neg (by omega)]) k ([], 0) (by simp) hk
  exact ⟨this.1, this.2⟩

theorem both (s : ByteArray) (hs : s.size ≤ 140737488351232) : ∃ (L : List Int) (b : Bool), L.length ≤ 41 ∧ (∀ k, 60 < k → spec_RecordsOfPath.f k s = some (L, b)) ∧ ∀ k, 60 < k → impl_RecordsOfPath.f k s = some (L, b) := by
  by_cases h : s.size ≤ 40 ∧ isP s = true
  · have hc : (decide (s.size ≤ 40) && isP s) = true := by simp [h]
    refine ⟨recs s, true, ?_, fun k hk => ?_, fun k hk => ?_⟩
    · have := (recs_l s h.1 impl_RecordsOfPath.l0 (fun _ _ _ _ _ _ => by rw [impl_RecordsOfPath.l0]) 100 (by omega)).2; omega
    · unfold spec_RecordsOfPath.f
      rw [paGood_eq s k (by omega), hc]
      simp only [Option.bind_some, if_true]
      rw [paHeights_eq s h.1 k (by omega)]
      exact (recs_l s h.1 spec_RecordsOfPath.l0 (fun _ _ _ _ _ _ => by rw [spec_RecordsOfPath.l0]) k (by omega)).1
    · unfold impl_RecordsOfPath.f
      rw [isPath_eq s hs, hc]
      simp only [Option.bind_some, if_true]
      rw [heights_eq s h.1 k (by omega)]
      exact (recs_l s h.1 impl_RecordsOfPath.l0 (fun _ _ _ _ _ _ => by rw [impl_RecordsOfPath.l0]) k (by omega)).1
  · have hc : (decide (s.size ≤ 40) && isP s) = false := by
      cases hh : (decide (s.size ≤ 40) && isP s) with
      | false => rfl
      | true => exact absurd (by simpa using hh) h
    refine ⟨[], false, by simp, fun k hk => ?_, fun k hk => ?_⟩
    · unfold spec_RecordsOfPath.f; rw [paGood_eq s k (by omega), hc]; simp
    · unfold impl_RecordsOfPath.f; rw [isPath_eq s hs, hc]; simp

theorem tail1 (k : Nat) (hk : 1050000 < k) (x5 : List Int) (n : Nat) (hm : Marked 1 n x5) (hn : n ≤ 1048577) : laws_FnExactRecordsOfPath.j1 (k + 1) x5 (1 + (n : Int)) false = some true := by
  simp only [laws_FnExactRecordsOfPath.j1]
  rw [if_neg (by decide), heldI x5 1 n hm hn (by omega) (by omega) k (by omega)]
  simp only [Option.bind_some]
  rw [if_neg (by omega)]
  first | rfl | simp

theorem tail0 (k : Nat) (hk : 1050000 < k) (x0 : ByteArray) (L : List Int) (b : Bool) (hL : L.length ≤ 1048577) (hi : ∀ k, 1050000 < k → impl_RecordsOfPath.f k x0 = some (L, b)) : laws_FnExactRecordsOfPath.j0 (k + 2) x0 L b L false = some true := by
  simp only [laws_FnExactRecordsOfPath.j0]
  rw [if_neg (by decide)]
  obtain ⟨xs, h1, h2⟩ := markI L 1 hL (by omega) (by omega) (k + 1) (by omega)
  rw [h1]
  simp only [Option.bind_some]
  rw [heldI xs 1 L.length h2 hL (by omega) (by omega) (k + 1) (by omega)]
  simp only [Option.bind_some]
  rw [if_neg (by omega)]
  simp only [if_true]
  rw [hi (k + 1) (by omega)]
  simp only [Option.bind_some]
  rw [eqI_self L hL (k + 1) (by omega)]
  simp only [Option.bind_some, if_true]
  rw [show (b != b) = false by cases b <;> rfl]
  exact tail1 k hk xs L.length h2 hL

theorem FnExactRecordsOfPath : laws_FnExactRecordsOfPath.Pure := by
  intro s hs
  obtain ⟨L, b, hL, h1, h2⟩ := both s hs
  refine ⟨1050003, ?_⟩
  unfold laws_FnExactRecordsOfPath.f
  by_cases hbig : (s.size : Int) > 1048576
  · rw [if_pos hbig]
  · rw [if_neg hbig, h1 1050003 (by omega), h2 1050003 (by omega)]
    simp only [Option.bind_some]
    rw [eqI_self L (by omega) 1050003 (by omega)]
    simp only [Option.bind_some, if_true]
    rw [show (b != b) = false by cases b <;> rfl]
    exact tail0 1050001 (by omega) s L b (by omega) (fun k hk => h2 k (by omega))

end Go.Proofs.YtdnmiljhgdkloaaDoor.PuqFnExactRecordsOfPath
namespace Go.Proofs.YtdnmiljhgdkloaaDoor.Pure
open Go.Proofs.YtdnmiljhgdkloaaDoor.QFnExactRecordsOfPath
theorem FnExactRecordsOfPath : laws_FnExactRecordsOfPath.Pure := Go.Proofs.YtdnmiljhgdkloaaDoor.PuqFnExactRecordsOfPath.FnExactRecordsOfPath
end Go.Proofs.YtdnmiljhgdkloaaDoor.Pure
