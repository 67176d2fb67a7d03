/- The program's LeadersAlong returns what the reference's returns, for all arguments (no condition). -/
import Derived.Test.YtfjpejdlgmlmhaaDoorQFnExactLeadersAlongx4
import Derived.Test.YtfjpejdlgmlmhaaDoorZpl
namespace Go.Proofs.YtfjpejdlgmlmhaaDoor.PuqFnExactLeadersAlong
open Go.RowKit Go.Proofs.YtfjpejdlgmlmhaaDoor.QFnExactLeadersAlong Go.Proofs.YtfjpejdlgmlmhaaDoorW.PrintWords Go.Proofs.YtfjpejdlgmlmhaaDoorW.PrintLast Go.Proofs.YtfjpejdlgmlmhaaDoorPl
set_option linter.unusedVariables false

/-- Is every byte one of a, b, c, d? -/
def isV (s : ByteArray) : Bool := s.data.toList.all fun b => decide (97 ≤ b.toNat ∧ b.toNat ≤ 100)

theorem isV_bt (s : ByteArray) : isV s = true ↔ ∀ i : Nat, i < s.size → 97 ≤ bt s (i : Int) ∧ bt s (i : Int) ≤ 100 := by
  unfold isV
  rw [List.all_eq_true]
  constructor
  · intro h i hi
    have := h (s[i]'hi) (by rw [show s[i]'hi = s.data.toList[i]'(by simpa using hi) from rfl]; exact List.getElem_mem _)
    unfold bt; rw [dif_pos (by simpa using hi)]
    simp only [decide_eq_true_eq] at this
    simp only [Int.toNat_natCast]
    omega
  · intro h b hb
    obtain ⟨i, hi, rfl⟩ := List.mem_iff_getElem.mp hb
    have hi' : i < s.size := by simpa using hi
    have h1 := h i hi'
    unfold bt at h1; rw [dif_pos (by simpa using hi')] at h1
    simp only [Int.toNat_natCast] at h1
    have h2 : s[i]'hi' = s.data.toList[i]'hi := rfl
    rw [h2] at h1
    simp only [decide_eq_true_eq]
    omega

theorem voGood_l (s : ByteArray) (hn : s.size ≤ 1048576) (d : Nat) : ∀ (k i : Nat), i + d = s.size → d < k → spec_voGood.l0 k s (i : Int) = some ((List.range' i d).all fun j => decide (97 ≤ bt s (j : Int) ∧ bt s (j : Int) ≤ 100)) := by
  induction d with
  | zero =>
    intro k i h1 h2
    obtain ⟨k, rfl⟩ : ∃ m, k = m + 1 := ⟨k - 1, by omega⟩
    simp only [spec_voGood.l0]
    rw [if_neg (by omega)]
    rfl
  | succ d ih =>
    intro k i h1 h2
    obtain ⟨k, rfl⟩ : ∃ m, k = m + 1 := ⟨k - 1, by omega⟩
    simp only [spec_voGood.l0]
    rw [if_pos (by omega), if_pos (by omega), w64 (by omega) (by omega), show ((i : Int) + 1) = ((i + 1 : Nat) : Int) by omega, ih k (i + 1) (by omega) (by omega), List.range'_succ, List.all_cons]
    by_cases h' : bt s (i : Int) < 97
    · rw [if_pos h', decide_eq_false (by omega), Bool.false_and]
    · rw [if_neg h']
      by_cases h : bt s (i : Int) > 100
      · rw [if_pos h, decide_eq_false (by omega), Bool.false_and]
      · rw [if_neg h, decide_eq_true (by omega), Bool.true_and]

theorem voGood_eq (s : ByteArray) (k : Nat) (hk : 17 < k) : spec_voGood.f k s = some (decide (s.size ≤ 16) && isV s) := by
  unfold spec_voGood.f
  by_cases h : s.size ≤ 16
  · rw [if_neg (by omega)]
    have := voGood_l s (by omega) s.size k 0 (by omega) (by omega)
    rw [show ((0 : Nat) : Int) = 0 from rfl] at this
    rw [this]
    congr 1
    rw [Bool.eq_iff_iff, List.all_eq_true]
    simp only [decide_eq_true_eq, Bool.and_eq_true]
    rw [isV_bt]
    exact ⟨fun H => ⟨h, fun i hi => H i (by rw [List.mem_range'_1]; omega)⟩, fun H i hi => H.2 i (by rw [List.mem_range'_1] at hi; omega)⟩
  · rw [if_pos (by omega)]
    simp [h]

theorem areVotes_eq (s : ByteArray) (hs : s.size ≤ 140737488351232) : impl_AreVotes.f s = some (decide (s.size ≤ 16) && isV s) := by
  unfold impl_AreVotes.f
  by_cases h : s.size ≤ 16
  · rw [if_pos (by omega)]
    unfold impl_isMade.f strings_Trim.f
    rw [if_pos (by omega), if_pos (by decide), if_pos (by decide)]
    simp only [Option.bind_some, Option.some.injEq]
    rw [trim_eq]
    simp only [h, decide_true, Bool.true_and]
    unfold isV
    congr 1
    funext b
    rw [Bool.eq_iff_iff]
    simp only [decide_eq_true_eq]
    have e : ∀ n : Fin 256, (([97, 98, 99, 100] : List UInt8).contains (UInt8.ofNat n.val) = true ↔ (97 ≤ n.val ∧ n.val ≤ 100)) := by decide +kernel
    have e' := e ⟨b.toNat, b.toNat_lt⟩
    rw [UInt8.ofNat_toNat] at e'
    exact e'
  · rw [if_neg (by omega)]
    simp [h]

/-- How many of the first i votes are for candidate c. -/
def cn (s : ByteArray) (c : Int) : Nat → Int
  | 0 => 0
  | i + 1 => cn s c i + (if bt s (i : Int) - 97 = c then 1 else 0)
theorem cn_bound (s : ByteArray) (c : Int) : ∀ i : Nat, 0 ≤ cn s c i ∧ cn s c i ≤ i
  | 0 => by simp [cn]
  | i + 1 => by have := cn_bound s c i; unfold cn; split <;> omega
theorem wcn (s : ByteArray) (c : Int) (i : Nat) (h : i ≤ 16) : wrap64 (cn s c i + 1) = cn s c i + 1 := by
  have hb := cn_bound s c i
  generalize cn s c i = x at hb ⊢
  exact w64 (by omega) (by omega)
theorem cn_congr (s t : ByteArray) (c : Int) : ∀ i : Nat, (∀ j : Nat, j < i → bt s (j : Int) = bt t (j : Int)) → cn s c i = cn t c i
  | 0, _ => rfl
  | i + 1, h => by unfold cn; rw [cn_congr s t c i (fun j hj => h j (by omega)), h i (by omega)]
theorem bt_extract (s : ByteArray) (m j : Nat) (hm : m ≤ s.size) (hj : j < m) : bt (s.extract 0 m) (j : Int) = bt s (j : Int) := by
  unfold bt
  have h1 : (s.extract 0 m).size = m := by rw [ByteArray.size_extract]; omega
  simp only [Int.toNat_natCast]
  rw [dif_pos (by omega), dif_pos (by omega)]
  congr 2
  rw [ByteArray.getElem_extract]
  congr 1
  omega
theorem size_pre (s : ByteArray) (m : Nat) (hm : m ≤ s.size) : (s.extract 0 m).size = m := by rw [ByteArray.size_extract]; omega

/-- Are the letters among the first ones? -/
def okV (s : ByteArray) : Prop := ∀ i : Nat, i < s.size → 97 ≤ bt s (i : Int) ∧ bt s (i : Int) ≤ 100
theorem okV_pre (s : ByteArray) (h : okV s) (m : Nat) (hm : m ≤ s.size) : okV (s.extract 0 m) := by
  intro i hi
  rw [size_pre s m hm] at hi
  rw [bt_extract s m i hm hi]; exact h i (by omega)

def ordv (s : ByteArray) (m : Nat) : Bool := decide (cn s 0 m ≥ cn s 1 m ∧ cn s 1 m ≥ cn s 2 m ∧ cn s 2 m ≥ cn s 3 m)

theorem tally_l (s : ByteArray) (hs : s.size ≤ 16) (hv : okV s) (d : Nat) : ∀ (k i : Nat), i + d = s.size → d < k → impl_tallyOf.l0 k s (s.size : Int) (i : Int) (cn s 0 i) (cn s 1 i) (cn s 2 i) (cn s 3 i) = some (cn s 0 s.size, cn s 1 s.size, cn s 2 s.size, cn s 3 s.size) := by
  induction d with
  | zero =>
    intro k i h1 h2
    obtain ⟨k, rfl⟩ : ∃ m, k = m + 1 := ⟨k - 1, by omega⟩
    obtain rfl : i = s.size := by omega
    simp only [impl_tallyOf.l0]
    rw [if_neg (by omega)]
  | succ d ih =>
    intro k i h1 h2
    obtain ⟨k, rfl⟩ : ∃ m, k = m + 1 := ⟨k - 1, by omega⟩
    have hb := hv i (by omega)
    have em : (bt s (i : Int) - 97) % 256 = bt s (i : Int) - 97 := by omega
    have ew : wrap64 ((i : Int) + 1) = ((i + 1 : Nat) : Int) := by rw [w64 (by omega) (by omega)]; omega
    have f := ih k (i + 1) (by omega) (by omega)
    have g0 := wcn s 0 i (by omega)
    have g1 := wcn s 1 i (by omega)
    have g2 := wcn s 2 i (by omega)
    have g3 := wcn s 3 i (by omega)
    simp only [impl_tallyOf.l0, em, ew, g0, g1, g2, g3]
    rw [if_pos (by omega), if_pos (by omega), if_pos (by omega), if_pos (by omega), if_pos (by omega)]
    simp only [cn] at f
    by_cases h0 : bt s (i : Int) - 97 = 0
    · rw [if_pos h0]; simp only [h0, if_true, show ((0 : Int) = 1) = False by simp, show ((0 : Int) = 2) = False by simp, show ((0 : Int) = 3) = False by simp, if_false, Int.add_zero] at f; exact f
    · rw [if_neg h0]
      by_cases h1 : bt s (i : Int) - 97 = 1
      · rw [if_pos h1]; simp only [h1, if_true, show ((1 : Int) = 0) = False by simp, show ((1 : Int) = 2) = False by simp, show ((1 : Int) = 3) = False by simp, if_false, Int.add_zero] at f; exact f
      · rw [if_neg h1]
        by_cases h2 : bt s (i : Int) - 97 = 2
        · rw [if_pos h2]; simp only [h2, if_true, show ((2 : Int) = 0) = False by simp, show ((2 : Int) = 1) = False by simp, show ((2 : Int) = 3) = False by simp, if_false, Int.add_zero] at f; exact f
        · have h3 : bt s (i : Int) - 97 = 3 := by omega
          rw [if_neg h2, if_pos h3]; simp only [h3, if_true, show ((3 : Int) = 0) = False by simp, show ((3 : Int) = 1) = False by simp, show ((3 : Int) = 2) = False by simp, if_false, Int.add_zero] at f; exact f

theorem tally_eq (s : ByteArray) (hs : s.size ≤ 16) (hv : okV s) (k : Nat) (hk : s.size < k) : impl_tallyOf.f k s = some (cn s 0 s.size, cn s 1 s.size, cn s 2 s.size, cn s 3 s.size) :=
  tally_l s hs hv s.size k 0 (by omega) hk

theorem counts_l (s : ByteArray) (hs : s.size ≤ 16) (hv : okV s) (d : Nat) : ∀ (k i : Nat), i + d = s.size → d < k → spec_voCounts.l0 k s [cn s 0 i, cn s 1 i, cn s 2 i, cn s 3 i] (i : Int) = some [cn s 0 s.size, cn s 1 s.size, cn s 2 s.size, cn s 3 s.size] := by
  induction d with
  | zero =>
    intro k i h1 h2
    obtain ⟨k, rfl⟩ : ∃ m, k = m + 1 := ⟨k - 1, by omega⟩
    obtain rfl : i = s.size := by omega
    simp only [spec_voCounts.l0]
    rw [if_neg (by omega)]
  | succ d ih =>
    intro k i h1 h2
    obtain ⟨k, rfl⟩ : ∃ m, k = m + 1 := ⟨k - 1, by omega⟩
    have hb := hv i (by omega)
    have em : (bt s (i : Int) - 97) % 256 = bt s (i : Int) - 97 := by omega
    have ew : wrap64 ((i : Int) + 1) = ((i + 1 : Nat) : Int) := by rw [w64 (by omega) (by omega)]; omega
    have f := ih k (i + 1) (by omega) (by omega)
    simp only [spec_voCounts.l0, em, ew, List.length_cons, List.length_nil]
    rw [if_pos (by omega), if_pos (by omega), if_pos (by omega), if_pos (by omega)]
    simp only [cn] at f
    by_cases h0 : bt s (i : Int) - 97 = 0
    · simp only [h0, if_true, show ((0 : Int) = 1) = False by simp, show ((0 : Int) = 2) = False by simp, show ((0 : Int) = 3) = False by simp, if_false, Int.add_zero] at f ⊢
      rw [show rd [cn s 0 i, cn s 1 i, cn s 2 i, cn s 3 i] 0 = cn s 0 i from rfl, wcn s 0 i (by omega)]; exact f
    · by_cases h1 : bt s (i : Int) - 97 = 1
      · simp only [h1, if_true, show ((1 : Int) = 0) = False by simp, show ((1 : Int) = 2) = False by simp, show ((1 : Int) = 3) = False by simp, if_false, Int.add_zero] at f ⊢
        rw [show rd [cn s 0 i, cn s 1 i, cn s 2 i, cn s 3 i] 1 = cn s 1 i from rfl, wcn s 1 i (by omega)]; exact f
      · by_cases h2 : bt s (i : Int) - 97 = 2
        · simp only [h2, if_true, show ((2 : Int) = 0) = False by simp, show ((2 : Int) = 1) = False by simp, show ((2 : Int) = 3) = False by simp, if_false, Int.add_zero] at f ⊢
          rw [show rd [cn s 0 i, cn s 1 i, cn s 2 i, cn s 3 i] 2 = cn s 2 i from rfl, wcn s 2 i (by omega)]; exact f
        · have h3 : bt s (i : Int) - 97 = 3 := by omega
          simp only [h3, if_true, show ((3 : Int) = 0) = False by simp, show ((3 : Int) = 1) = False by simp, show ((3 : Int) = 2) = False by simp, if_false, Int.add_zero] at f ⊢
          rw [show rd [cn s 0 i, cn s 1 i, cn s 2 i, cn s 3 i] 3 = cn s 3 i from rfl, wcn s 3 i (by omega)]; exact f

theorem counts_eq (s : ByteArray) (hs : s.size ≤ 16) (hv : okV s) (k : Nat) (hk : s.size < k) : spec_voCounts.f k s = some [cn s 0 s.size, cn s 1 s.size, cn s 2 s.size, cn s 3 s.size] := by
  unfold spec_voCounts.f
  rw [if_pos (by decide)]
  exact counts_l s hs hv s.size k 0 (by omega) hk

theorem max4 (a b c d : Int) (k : Nat) (hk : 5 < k) : slices_Max_int_int.f k [a, b, c, d] = some (mx (mx (mx a b) c) d) := by
  obtain ⟨k, rfl⟩ : ∃ m, k = m + 4 := ⟨k - 4, by omega⟩
  have v1 : wrap64 (1 + 1) = 2 := by rw [w64 (by omega) (by omega)]; rfl
  have v2 : wrap64 (2 + 1) = 3 := by rw [w64 (by omega) (by omega)]; rfl
  have v3 : wrap64 (3 + 1) = 4 := by rw [w64 (by omega) (by omega)]; rfl
  have r0 : rd [a, b, c, d] 0 = a := rfl
  have r1 : rd [a, b, c, d] 1 = b := rfl
  have r2 : rd [a, b, c, d] 2 = c := rfl
  have r3 : rd [a, b, c, d] 3 = d := rfl
  have l4 : (([a, b, c, d] : List Int).length : Int) = 4 := rfl
  simp only [slices_Max_int_int.f, slices_Max_int_int.l0, l4, v1, v2, v3, r0, r1, r2, r3]
  simp only [show ((4 : Int) < 1) = False by simp, show ((0 : Int) < 4) = True by simp, show ((1 : Int) < 4) = True by simp, show ((2 : Int) < 4) = True by simp, show ((3 : Int) < 4) = True by simp, show ((4 : Int) < 4) = False by simp, show ((0 : Int) ≤ 1) = True by simp, show ((0 : Int) ≤ 2) = True by simp, show ((0 : Int) ≤ 3) = True by simp, if_true, if_false]

/-- The letters of those with the most. -/
def wn (p q r t : Bool) : ByteArray := strOfNums ((if p then [97] else []) ++ (if q then [98] else []) ++ (if r then [99] else []) ++ (if t then [100] else []))

theorem winners_eq (a b c d M : Int) (hM : mx (mx (mx a b) c) d = M) (k : Nat) (hk : 20 < k) : impl_tally_winners.f k a b c d = some (wn (decide (a = M)) (decide (b = M)) (decide (c = M)) (decide (d = M))) := by
  obtain ⟨k, rfl⟩ : ∃ m, k = m + 5 := ⟨k - 5, by omega⟩
  have v0 : wrap64 (0 + 1) = 1 := by rw [w64 (by omega) (by omega)]; rfl
  have v1 : wrap64 (1 + 1) = 2 := by rw [w64 (by omega) (by omega)]; rfl
  have v2 : wrap64 (2 + 1) = 3 := by rw [w64 (by omega) (by omega)]; rfl
  have v3 : wrap64 (3 + 1) = 4 := by rw [w64 (by omega) (by omega)]; rfl
  have b0 : bt (⟨#[97, 98, 99, 100]⟩ : ByteArray) 0 = 97 := by decide +kernel
  have b1 : bt (⟨#[97, 98, 99, 100]⟩ : ByteArray) 1 = 98 := by decide +kernel
  have b2 : bt (⟨#[97, 98, 99, 100]⟩ : ByteArray) 2 = 99 := by decide +kernel
  have b3 : bt (⟨#[97, 98, 99, 100]⟩ : ByteArray) 3 = 100 := by decide +kernel
  have m4 : slices_Max_int_int.f (k + 4) [a, b, c, d] = some M := by rw [max4 a b c d _ (by omega), hM]
  have m3 : slices_Max_int_int.f (k + 3) [a, b, c, d] = some M := by rw [max4 a b c d _ (by omega), hM]
  have m2 : slices_Max_int_int.f (k + 2) [a, b, c, d] = some M := by rw [max4 a b c d _ (by omega), hM]
  have m1 : slices_Max_int_int.f (k + 1) [a, b, c, d] = some M := by rw [max4 a b c d _ (by omega), hM]
  simp only [impl_tally_winners.f, impl_tally_winners.l0, v0, v1, v2, v3, b0, b1, b2, b3, m4, m3, m2, m1, Option.bind_some]
  simp only [show ((0 : Int) < 4) = True by simp, show ((1 : Int) < 4) = True by simp, show ((2 : Int) < 4) = True by simp, show ((3 : Int) < 4) = True by simp, show ((4 : Int) < 4) = False by simp, show ((0 : Int) ≤ 0) = True by simp, show ((0 : Int) ≤ 1) = True by simp, show ((0 : Int) ≤ 2) = True by simp, show ((0 : Int) ≤ 3) = True by simp,
    show ((1 : Int) = 0) = False by simp, show ((2 : Int) = 0) = False by simp, show ((2 : Int) = 1) = False by simp, show ((3 : Int) = 0) = False by simp, show ((3 : Int) = 1) = False by simp, show ((3 : Int) = 2) = False by simp, if_true, if_false, List.length_nil, List.length_append, List.length_cons]
  unfold wn
  by_cases h0 : a = M <;> by_cases h1 : b = M <;> by_cases h2 : c = M <;> by_cases h3 : d = M <;> simp [h0, h1, h2, h3]

theorem most_eq (x y : Int) : spec_l1Most.f x y = some (mx x y) := by
  unfold spec_l1Most.f mx
  by_cases h : x > y
  · rw [if_pos h, if_neg (by omega)]
  · rw [if_neg h]
    by_cases h2 : x < y
    · rw [if_pos h2]
    · rw [if_neg h2, show x = y by omega]

theorem voWinners_eq (a b c d M : Int) (ha : 0 ≤ a) (hM : mx (mx (mx a b) c) d = M) (k : Nat) (hk : 20 < k) : spec_voWinners.f k [a, b, c, d] = some (wn (decide (a = M)) (decide (b = M)) (decide (c = M)) (decide (d = M))) := by
  obtain ⟨k, rfl⟩ : ∃ m, k = m + 10 := ⟨k - 10, by omega⟩
  have v0 : wrap64 (0 + 1) = 1 := by rw [w64 (by omega) (by omega)]; rfl
  have v1 : wrap64 (1 + 1) = 2 := by rw [w64 (by omega) (by omega)]; rfl
  have v2 : wrap64 (2 + 1) = 3 := by rw [w64 (by omega) (by omega)]; rfl
  have v3 : wrap64 (3 + 1) = 4 := by rw [w64 (by omega) (by omega)]; rfl
  have r0 : rd [a, b, c, d] 0 = a := rfl
  have r1 : rd [a, b, c, d] 1 = b := rfl
  have r2 : rd [a, b, c, d] 2 = c := rfl
  have r3 : rd [a, b, c, d] 3 = d := rfl
  have l4 : (([a, b, c, d] : List Int).length : Int) = 4 := rfl
  have e0 : mx 0 a = a := by unfold mx; split <;> omega
  simp only [spec_voWinners.f, spec_voWinners.l0, l4, v0, v1, v2, v3, r0, r1, r2, r3, most_eq, Option.bind_some, e0, hM]
  simp only [show ((0 : Int) < 4) = True by simp, show ((1 : Int) < 4) = True by simp, show ((2 : Int) < 4) = True by simp, show ((3 : Int) < 4) = True by simp, show ((4 : Int) < 4) = False by simp, show ((0 : Int) ≤ 0) = True by simp, show ((0 : Int) ≤ 1) = True by simp, show ((0 : Int) ≤ 2) = True by simp, show ((0 : Int) ≤ 3) = True by simp, if_true, if_false]
  simp only [spec_voWinners.l1, l4, v0, v1, v2, v3, r0, r1, r2, r3]
  simp only [show ((0 : Int) < 4) = True by simp, show ((1 : Int) < 4) = True by simp, show ((2 : Int) < 4) = True by simp, show ((3 : Int) < 4) = True by simp, show ((4 : Int) < 4) = False by simp, show ((0 : Int) ≤ 0) = True by simp, show ((0 : Int) ≤ 1) = True by simp, show ((0 : Int) ≤ 2) = True by simp, show ((0 : Int) ≤ 3) = True by simp, if_true, if_false]
  clear hM e0 ha l4 r0 r1 r2 r3 v0 v1 v2 v3
  by_cases h0 : a = M <;> by_cases h1 : b = M <;> by_cases h2 : c = M <;> by_cases h3 : d = M <;> simp only [h0, h1, h2, h3, if_true, if_false, decide_true, decide_false] <;> (first | rfl | decide +kernel)

theorem eqS_self (l : List ByteArray) (hl : l.length ≤ 1048577) (k : Nat) (hk : l.length < k) : laws_eqStringS.f k l l = some true := by
  unfold laws_eqStringS.f
  rw [if_pos rfl]
  exact (loop_range (fun k (_ : Unit) i => laws_eqStringS.l0 k l l i) l.length (fun _ _ => ()) (fun _ => true) (fun _ _ => True)
    (fun k i _ hi _ => by
      refine ⟨?_, trivial⟩
      have e3 : wrap64 ((i : Int) + 1) = ((i + 1 : Nat) : Int) := by rw [w64 (by omega) (by omega)]; omega
      simp only [laws_eqStringS.l0, e3, if_true]
      repeat rw [if_pos (by omega)])
    (fun k _ _ => by simp only [laws_eqStringS.l0]; rw [if_neg (by omega)]) k () trivial hk).1

/-- The text of a mark. -/
def mt (x : Int) : ByteArray := (laws_markText.f 10 x).getD ByteArray.empty
theorem mt_eq (x : Int) (h0 : 0 ≤ x) (h1 : x ≤ 40) (k : Nat) (hk : 10 ≤ k) : laws_markText.f k x = some (mt x) := by
  obtain ⟨d, rfl⟩ : ∃ d, k = 10 + d := ⟨k - 10, by omega⟩
  clear hk
  induction d with
  | zero =>
    have h := (show ∀ n : Fin 41, (laws_markText.f 10 (n.val : Int)).isSome = true by decide +kernel) ⟨x.toNat, by omega⟩
    rw [show ((x.toNat : Nat) : Int) = x by omega] at h
    unfold mt
    cases e : laws_markText.f 10 x with
    | none => rw [e] at h; cases h
    | some v => rfl
  | succ d ih => exact laws_markText.mono x (10 + d) _ ih

def MarkedS (a : Int) (n : Nat) (xs : List ByteArray) : Prop := xs.length = n ∧ ∀ j : Nat, j < n → rdOf ByteArray.empty xs (j : Int) = mt (a + j)
theorem rdOf_nat (xs : List ByteArray) (i : Nat) (h : i < xs.length) : rdOf ByteArray.empty xs (i : Int) = xs[i] := by
  unfold rdOf; rw [Int.toNat_natCast, List.getD_eq_getElem?_getD, List.getElem?_eq_getElem h]; rfl

theorem markS (l : List ByteArray) (hl : l.length ≤ 20) (k : Nat) (hk : 60 < k) : ∃ xs, laws_markStringS.f k l 1 = some (1 + (l.length : Int), xs) ∧ MarkedS 1 l.length xs := by
  unfold laws_markStringS.f
  have := loop_from (fun k (st : List ByteArray × Int) i => laws_markStringS.l0 (k + 20) st.1 st.2 i) l.length (fun st i => (st.1.set i (mt st.2), st.2 + 1)) (fun st => (st.2, st.1)) (fun i st => st.1.length = l.length ∧ st.2 = 1 + i ∧ ∀ j : Nat, j < i → rdOf ByteArray.empty st.1 (j : Int) = mt (1 + j))
    (fun k i st hi hI => by
      obtain ⟨xs, x⟩ := st
      obtain ⟨h1, h2, h3⟩ := hI
      simp only at h1 h2 h3
      refine ⟨?_, ?_, ?_, ?_⟩
      · have e3 : wrap64 ((i : Int) + 1) = ((i + 1 : Nat) : Int) := by rw [w64 (by omega) (by omega)]; omega
        have e4 : wrap64 (x + 1) = x + 1 := w64 (by omega) (by omega)
        show laws_markStringS.l0 ((k + 20) + 1) xs x (i : Int) = _
        simp only [laws_markStringS.l0, e3, e4, Int.toNat_natCast, mt_eq x (by omega) (by omega) (k + 20) (by omega), Option.bind_some]
        repeat rw [if_pos (by omega)]
      · simpa using h1
      · simp only; omega
      · intro j hj
        simp only
        by_cases e : j = i
        · subst e
          rw [rdOf_nat _ _ (by rw [List.length_set]; omega), List.getElem_set_self, h2]
        · rw [rdOf_nat _ _ (by rw [List.length_set]; omega), List.getElem_set_ne (by omega), ← rdOf_nat _ _ (by omega)]
          exact h3 j (by omega))
    (fun k st hI => by show laws_markStringS.l0 ((k + 20) + 1) st.1 st.2 (l.length : Int) = _; simp only [laws_markStringS.l0]; rw [if_neg (by omega)]) l.length (k - 20) 0 (l, 1) (by omega) ⟨rfl, by simp, fun j hj => by omega⟩ (by omega)
  obtain ⟨h1, h2⟩ := this
  refine ⟨_, ?_, h2.1, h2.2.2⟩
  have e : k - 20 + 20 = k := by omega
  rw [e] at h1
  rw [show laws_markStringS.l0 k l 1 0 = _ from h1, h2.2.1]

theorem heldS (xs : List ByteArray) (n : Nat) (hm : MarkedS 1 n xs) (hn : n ≤ 20) (k : Nat) (hk : 60 < k) : laws_heldStringS.f k xs 1 = some (1 + (n : Int)) := by
  unfold laws_heldStringS.f
  obtain ⟨h1, h2⟩ := hm
  have := loop_from (fun k (st : Int) i => laws_heldStringS.l0 (k + 20) xs st i) n (fun st _ => st + 1) id (fun i st => st = 1 + i)
    (fun k i st hi hI => by
      subst hI
      refine ⟨?_, by omega⟩
      have e3 : wrap64 ((i : Int) + 1) = ((i + 1 : Nat) : Int) := by rw [w64 (by omega) (by omega)]; omega
      have e4 : wrap64 (1 + (i : Int) + 1) = 1 + i + 1 := w64 (by omega) (by omega)
      show laws_heldStringS.l0 ((k + 20) + 1) xs _ (i : Int) = _
      simp only [laws_heldStringS.l0, e3, e4, h2 i hi, mt_eq (1 + (i : Int)) (by omega) (by omega) (k + 20) (by omega), Option.bind_some, if_true]
      repeat rw [if_pos (by omega)])
    (fun k st hI => by show laws_heldStringS.l0 ((k + 20) + 1) xs st (n : Int) = _; simp only [laws_heldStringS.l0]; rw [if_neg (by omega)]; rfl) n (k - 20) 0 1 (by omega) (by simp) (by omega)
  have e : k - 20 + 20 = k := by omega
  rw [e] at this
  rw [show laws_heldStringS.l0 k xs 1 0 = _ from this.1]
  exact congrArg some this.2

/-- Who leads behind the first m votes. -/
def wAt (s : ByteArray) (m : Nat) : ByteArray :=
  wn (decide (cn s 0 m = mx (mx (mx (cn s 0 m) (cn s 1 m)) (cn s 2 m)) (cn s 3 m))) (decide (cn s 1 m = mx (mx (mx (cn s 0 m) (cn s 1 m)) (cn s 2 m)) (cn s 3 m)))
    (decide (cn s 2 m = mx (mx (mx (cn s 0 m) (cn s 1 m)) (cn s 2 m)) (cn s 3 m))) (decide (cn s 3 m = mx (mx (mx (cn s 0 m) (cn s 1 m)) (cn s 2 m)) (cn s 3 m)))
def led (s : ByteArray) (n : Nat) : List ByteArray := (List.range n).map fun i => wAt s (i + 1)
theorem led_succ (s : ByteArray) (n : Nat) : led s (n + 1) = led s n ++ [wAt s (n + 1)] := by unfold led; rw [List.range_succ, List.map_append]; rfl
theorem led_length (s : ByteArray) (n : Nat) : (led s n).length = n := by simp [led]
theorem pre_cn (s : ByteArray) (m : Nat) (hm : m ≤ s.size) (c : Int) : cn (s.extract 0 m) c (s.extract 0 m).size = cn s c m := by
  rw [size_pre s m hm]; exact cn_congr _ _ c m (fun j hj => bt_extract s m j hm hj)

theorem impl_l (s : ByteArray) (hs : s.size ≤ 16) (hv : okV s) (d : Nat) : ∀ (k i : Nat), i + d = s.size → d + 40 < k → impl_LeadersAlong.l0 k s (led s i) (s.size : Int) (i : Int) = some (led s s.size, true) := by
  induction d with
  | zero =>
    intro k i h1 h2
    obtain ⟨k, rfl⟩ : ∃ m, k = m + 1 := ⟨k - 1, by omega⟩
    obtain rfl : i = s.size := by omega
    simp only [impl_LeadersAlong.l0]
    rw [if_neg (by omega)]
  | succ d ih =>
    intro k i h1 h2
    obtain ⟨k, rfl⟩ : ∃ m, k = m + 1 := ⟨k - 1, by omega⟩
    have ew : wrap64 ((i : Int) + 1) = ((i + 1 : Nat) : Int) := by rw [w64 (by omega) (by omega)]; omega
    simp only [impl_LeadersAlong.l0, ew, Int.toNat_natCast]
    rw [if_pos (by omega), if_pos (by omega), if_pos (by omega), tally_eq _ (by rw [size_pre s _ (by omega)]; omega) (okV_pre s hv _ (by omega)) k (by rw [size_pre s _ (by omega)]; omega)]
    simp only [Option.bind_some, pre_cn s (i + 1) (by omega)]
    rw [winners_eq _ _ _ _ _ rfl k (by omega)]
    simp only [Option.bind_some]
    rw [if_pos (by rw [led_length]; omega)]
    have f := ih k (i + 1) (by omega) (by omega)
    rw [led_succ] at f
    exact f

theorem spec_l (s : ByteArray) (hs : s.size ≤ 16) (hv : okV s) (d : Nat) : ∀ (k i : Nat), i + d = s.size → d + 40 < k → spec_LeadersAlong.l0 k s (led s i) ((i + 1 : Nat) : Int) = some (led s s.size, true) := by
  induction d with
  | zero =>
    intro k i h1 h2
    obtain ⟨k, rfl⟩ : ∃ m, k = m + 1 := ⟨k - 1, by omega⟩
    obtain rfl : i = s.size := by omega
    simp only [spec_LeadersAlong.l0]
    rw [if_neg (by omega)]
  | succ d ih =>
    intro k i h1 h2
    obtain ⟨k, rfl⟩ : ∃ m, k = m + 1 := ⟨k - 1, by omega⟩
    have ew : wrap64 (((i + 1 : Nat) : Int) + 1) = ((i + 1 + 1 : Nat) : Int) := by rw [w64 (by omega) (by omega)]; omega
    simp only [spec_LeadersAlong.l0, ew, Int.toNat_natCast]
    rw [if_pos (by omega), if_pos (by omega), counts_eq _ (by rw [size_pre s _ (by omega)]; omega) (okV_pre s hv _ (by omega)) k (by rw [size_pre s _ (by omega)]; omega)]
    simp only [Option.bind_some, pre_cn s (i + 1) (by omega)]
    rw [voWinners_eq _ _ _ _ _ (cn_bound s 0 (i + 1)).1 rfl k (by omega)]
    simp only [Option.bind_some]
    rw [if_pos (by rw [led_length]; omega)]
    have f := ih k (i + 1) (by omega) (by omega)
    rw [led_succ] at f
    exact f

theorem both (s : ByteArray) (hs : s.size ≤ 140737488351232) : ∃ (L : List ByteArray) (b : Bool), L.length ≤ 16 ∧ (∀ k, 80 < k → spec_LeadersAlong.f k s = some (L, b)) ∧ (∀ k, 80 < k → impl_LeadersAlong.f k s = some (L, b)) := by
  by_cases h : s.size ≤ 16 ∧ isV s = true
  · have hv : okV s := (isV_bt s).mp h.2
    refine ⟨led s s.size, true, by rw [led_length]; exact h.1, fun k hk => ?_, fun k hk => ?_⟩
    · unfold spec_LeadersAlong.f
      rw [voGood_eq s k (by omega), show (decide (s.size ≤ 16) && isV s) = true by simp [h]]
      simp only [Option.bind_some, if_true]
      exact spec_l s h.1 hv s.size k 0 (by omega) (by omega)
    · unfold impl_LeadersAlong.f
      rw [areVotes_eq s hs, show (decide (s.size ≤ 16) && isV s) = true by simp [h]]
      simp only [Option.bind_some, if_true]
      exact impl_l s h.1 hv s.size k 0 (by omega) (by omega)
  · have e : (decide (s.size ≤ 16) && isV s) = false := by
      cases hh : (decide (s.size ≤ 16) && isV s) with
      | false => rfl
      | true => exact absurd (by simpa using hh) h
    refine ⟨[], false, by simp, fun k hk => ?_, fun k hk => ?_⟩
    · unfold spec_LeadersAlong.f; rw [voGood_eq s k (by omega), e]; rfl
    · unfold impl_LeadersAlong.f; rw [areVotes_eq s hs, e]; rfl

theorem FnExactLeadersAlong : laws_FnExactLeadersAlong.Pure := by
  intro s hs
  obtain ⟨L, b, hL, h1, h2⟩ := both s hs
  refine ⟨200, ?_⟩
  unfold laws_FnExactLeadersAlong.f
  by_cases hbig : (s.size : Int) > 1048576
  · rw [if_pos hbig]
  · rw [if_neg hbig, h1 200 (by omega), h2 200 (by omega)]
    simp only [Option.bind_some]
    rw [eqS_self L (by omega) 200 (by omega)]
    simp only [Option.bind_some, if_true]
    rw [show (b != b) = false by cases b <;> rfl]
    simp only [laws_FnExactLeadersAlong.j0]
    rw [if_neg (by decide)]
    obtain ⟨xs, m1, m2⟩ := markS L (by omega) 199 (by omega)
    rw [m1]
    simp only [Option.bind_some]
    rw [heldS xs L.length m2 (by omega) 199 (by omega)]
    simp only [Option.bind_some]
    rw [if_neg (by omega)]
    simp only [if_true]
    rw [h2 199 (by omega)]
    simp only [Option.bind_some]
    rw [eqS_self L (by omega) 199 (by omega)]
    simp only [Option.bind_some, if_true]
    rw [show (b != b) = false by cases b <;> rfl]
    simp only [laws_FnExactLeadersAlong.j1]
    rw [if_neg (by decide), heldS xs L.length m2 (by omega) 198 (by omega)]
    simp only [Option.bind_some]
    rw [if_neg (by omega)]
    first | rfl | simp

end Go.Proofs.YtfjpejdlgmlmhaaDoor.PuqFnExactLeadersAlong
namespace Go.Proofs.YtfjpejdlgmlmhaaDoor.Pure
open Go.Proofs.YtfjpejdlgmlmhaaDoor.QFnExactLeadersAlong
theorem FnExactLeadersAlong : laws_FnExactLeadersAlong.Pure := Go.Proofs.YtfjpejdlgmlmhaaDoor.PuqFnExactLeadersAlong.FnExactLeadersAlong
end Go.Proofs.YtfjpejdlgmlmhaaDoor.Pure
