/- For every text: RankOrdered of the program and of the reference answer alike. -/
import Derived.Test.YtgpebahbeccniaaDoorQFnExactRankOrderedx6
import Derived.Test.YtgpebahbeccniaaDoorZpl
namespace Go.Proofs.YtgpebahbeccniaaDoor.PuqFnExactRankOrdered
open Go.RowKit Go.Proofs.YtgpebahbeccniaaDoor.QFnExactRankOrdered Go.Proofs.YtgpebahbeccniaaDoorW.PrintWords Go.Proofs.YtgpebahbeccniaaDoorW.PrintLast Go.Proofs.YtgpebahbeccniaaDoorPl
set_option linter.unusedVariables false

/-- Is every byte one of a, b, c, d? -/
def isV (s : ByteArray) : Bool := s.data.toList.all fun b => decide (97 ≤ b.toNat ∧ b.toNat ≤ 100)

theorem isV_bt (s : ByteArray) : isV s = true ↔ ∀ i : Nat, i < s.size → 97 ≤ bt s (i : Int) ∧ bt s (i : Int) ≤ 100 := by
  unfold isV
  rw [List.all_eq_true]
  constructor
  · intro h i hi
    have := h (s[i]'hi) (by rw [show s[i]'hi = s.data.toList[i]'(by simpa using hi) from rfl]; exact List.getElem_mem _)
    unfold bt; rw [dif_pos (by simpa using hi)]
    simp only [decide_eq_true_eq] at this
    simp only [Int.toNat_natCast]
    omega
  · intro h b hb
    obtain ⟨i, hi, rfl⟩ := List.mem_iff_getElem.mp hb
    have hi' : i < s.size := by simpa using hi
    have h1 := h i hi'
    unfold bt at h1; rw [dif_pos (by simpa using hi')] at h1
    simp only [Int.toNat_natCast] at h1
    have h2 : s[i]'hi' = s.data.toList[i]'hi := rfl
    rw [h2] at h1
    simp only [decide_eq_true_eq]
    omega

theorem voGood_l (s : ByteArray) (hn : s.size ≤ 1048576) (d : Nat) : ∀ (k i : Nat), i + d = s.size → d < k → spec_voGood.l0 k s (i : Int) = some ((List.range' i d).all fun j => decide (97 ≤ bt s (j : Int) ∧ bt s (j : Int) ≤ 100)) := by
  induction d with
  | zero =>
    intro k i h1 h2
    obtain ⟨k, rfl⟩ : ∃ m, k = m + 1 := ⟨k - 1, by omega⟩
    simp only [spec_voGood.l0]
    rw [if_neg (by omega)]
    rfl
  | succ d ih =>
    intro k i h1 h2
    obtain ⟨k, rfl⟩ : ∃ m, k = m + 1 := ⟨k - 1, by omega⟩
    simp only [spec_voGood.l0]
    rw [if_pos (by omega), if_pos (by omega), w64 (by omega) (by omega), show ((i : Int) + 1) = ((i + 1 : Nat) : Int) by omega, ih k (i + 1) (by omega) (by omega), List.range'_succ, List.all_cons]
    by_cases h' : bt s (i : Int) < 97
    · rw [if_pos h', decide_eq_false (by omega), Bool.false_and]
    · rw [if_neg h']
      by_cases h : bt s (i : Int) > 100
      · rw [if_pos h, decide_eq_false (by omega), Bool.false_and]
      · rw [if_neg h, decide_eq_true (by omega), Bool.true_and]

theorem voGood_eq (s : ByteArray) (k : Nat) (hk : 17 < k) : spec_voGood.f k s = some (decide (s.size ≤ 16) && isV s) := by
  unfold spec_voGood.f
  by_cases h : s.size ≤ 16
  · rw [if_neg (by omega)]
    have := voGood_l s (by omega) s.size k 0 (by omega) (by omega)
    rw [show ((0 : Nat) : Int) = 0 from rfl] at this
    rw [this]
    congr 1
    rw [Bool.eq_iff_iff, List.all_eq_true]
    simp only [decide_eq_true_eq, Bool.and_eq_true]
    rw [isV_bt]
    exact ⟨fun H => ⟨h, fun i hi => H i (by rw [List.mem_range'_1]; omega)⟩, fun H i hi => H.2 i (by rw [List.mem_range'_1] at hi; omega)⟩
  · rw [if_pos (by omega)]
    simp [h]

theorem areVotes_eq (s : ByteArray) (hs : s.size ≤ 140737488351232) : impl_AreVotes.f s = some (decide (s.size ≤ 16) && isV s) := by
  unfold impl_AreVotes.f
  by_cases h : s.size ≤ 16
  · rw [if_pos (by omega)]
    unfold impl_isMade.f strings_Trim.f
    rw [if_pos (by omega), if_pos (by decide), if_pos (by decide)]
    simp only [Option.bind_some, Option.some.injEq]
    rw [trim_eq]
    simp only [h, decide_true, Bool.true_and]
    unfold isV
    congr 1
    funext b
    rw [Bool.eq_iff_iff]
    simp only [decide_eq_true_eq]
    have e : ∀ n : Fin 256, (([97, 98, 99, 100] : List UInt8).contains (UInt8.ofNat n.val) = true ↔ (97 ≤ n.val ∧ n.val ≤ 100)) := by decide +kernel
    have e' := e ⟨b.toNat, b.toNat_lt⟩
    rw [UInt8.ofNat_toNat] at e'
    exact e'
  · rw [if_neg (by omega)]
    simp [h]

/-! ### small facts on four numbers -/
section
variable (a b c d : Int)
theorem v1_ : wrap64 ((0 : Int) + 1) = 1 := by rw [w64 (by omega) (by omega)]; rfl
theorem v2_ : wrap64 ((1 : Int) + 1) = 2 := by rw [w64 (by omega) (by omega)]; rfl
theorem v3_ : wrap64 ((2 : Int) + 1) = 3 := by rw [w64 (by omega) (by omega)]; rfl
theorem v4_ : wrap64 ((3 : Int) + 1) = 4 := by rw [w64 (by omega) (by omega)]; rfl
theorem r0_ : rd [a, b, c, d] 0 = a := rfl
theorem r1_ : rd [a, b, c, d] 1 = b := rfl
theorem r2_ : rd [a, b, c, d] 2 = c := rfl
theorem r3_ : rd [a, b, c, d] 3 = d := rfl
theorem l4_ : (([a, b, c, d] : List Int).length : Int) = 4 := rfl
end
theorem c04 : ((0 : Int) < 4) = True := by simp
theorem c14 : ((1 : Int) < 4) = True := by simp
theorem c24 : ((2 : Int) < 4) = True := by simp
theorem c34 : ((3 : Int) < 4) = True := by simp
theorem c44 : ((4 : Int) < 4) = False := by simp
theorem c00 : ((0 : Int) ≤ 0) = True := by simp
theorem c01 : ((0 : Int) ≤ 1) = True := by simp
theorem c02 : ((0 : Int) ≤ 2) = True := by simp
theorem c03 : ((0 : Int) ≤ 3) = True := by simp


/-- How many of the first i votes are for candidate c. -/
def cn (s : ByteArray) (c : Int) : Nat → Int
  | 0 => 0
  | i + 1 => cn s c i + (if bt s (i : Int) - 97 = c then 1 else 0)
theorem cn_bound (s : ByteArray) (c : Int) : ∀ i : Nat, 0 ≤ cn s c i ∧ cn s c i ≤ i
  | 0 => by simp [cn]
  | i + 1 => by have := cn_bound s c i; unfold cn; split <;> omega
theorem wcn (s : ByteArray) (c : Int) (i : Nat) (h : i ≤ 16) : wrap64 (cn s c i + 1) = cn s c i + 1 := by
  have hb := cn_bound s c i
  generalize cn s c i = x at hb ⊢
  exact w64 (by omega) (by omega)
theorem cn_congr (s t : ByteArray) (c : Int) : ∀ i : Nat, (∀ j : Nat, j < i → bt s (j : Int) = bt t (j : Int)) → cn s c i = cn t c i
  | 0, _ => rfl
  | i + 1, h => by unfold cn; rw [cn_congr s t c i (fun j hj => h j (by omega)), h i (by omega)]
theorem bt_extract (s : ByteArray) (m j : Nat) (hm : m ≤ s.size) (hj : j < m) : bt (s.extract 0 m) (j : Int) = bt s (j : Int) := by
  unfold bt
  have h1 : (s.extract 0 m).size = m := by rw [ByteArray.size_extract]; omega
  simp only [Int.toNat_natCast]
  rw [dif_pos (by omega), dif_pos (by omega)]
  congr 2
  rw [ByteArray.getElem_extract]
  congr 1
  omega
theorem size_pre (s : ByteArray) (m : Nat) (hm : m ≤ s.size) : (s.extract 0 m).size = m := by rw [ByteArray.size_extract]; omega

/-- Are the letters among the first ones? -/
def okV (s : ByteArray) : Prop := ∀ i : Nat, i < s.size → 97 ≤ bt s (i : Int) ∧ bt s (i : Int) ≤ 100
theorem okV_pre (s : ByteArray) (h : okV s) (m : Nat) (hm : m ≤ s.size) : okV (s.extract 0 m) := by
  intro i hi
  rw [size_pre s m hm] at hi
  rw [bt_extract s m i hm hi]; exact h i (by omega)

def ordv (s : ByteArray) (m : Nat) : Bool := decide (cn s 0 m ≥ cn s 1 m ∧ cn s 1 m ≥ cn s 2 m ∧ cn s 2 m ≥ cn s 3 m)

theorem tally_l (s : ByteArray) (hs : s.size ≤ 16) (hv : okV s) (d : Nat) : ∀ (k i : Nat), i + d = s.size → d < k → impl_tallyOf.l0 k s (s.size : Int) (i : Int) (cn s 0 i) (cn s 1 i) (cn s 2 i) (cn s 3 i) = some (cn s 0 s.size, cn s 1 s.size, cn s 2 s.size, cn s 3 s.size) := by
  induction d with
  | zero =>
    intro k i h1 h2
    obtain ⟨k, rfl⟩ : ∃ m, k = m + 1 := ⟨k - 1, by omega⟩
    obtain rfl : i = s.size := by omega
    simp only [impl_tallyOf.l0]
    rw [if_neg (by omega)]
  | succ d ih =>
    intro k i h1 h2
    obtain ⟨k, rfl⟩ : ∃ m, k = m + 1 := ⟨k - 1, by omega⟩
    have hb := hv i (by omega)
    have em : (bt s (i : Int) - 97) % 256 = bt s (i : Int) - 97 := by omega
    have ew : wrap64 ((i : Int) + 1) = ((i + 1 : Nat) : Int) := by rw [w64 (by omega) (by omega)]; omega
    have f := ih k (i + 1) (by omega) (by omega)
    have g0 := wcn s 0 i (by omega)
    have g1 := wcn s 1 i (by omega)
    have g2 := wcn s 2 i (by omega)
    have g3 := wcn s 3 i (by omega)
    simp only [impl_tallyOf.l0, em, ew, g0, g1, g2, g3]
    rw [if_pos (by omega), if_pos (by omega), if_pos (by omega), if_pos (by omega), if_pos (by omega)]
    simp only [cn] at f
    by_cases h0 : bt s (i : Int) - 97 = 0
    · rw [if_pos h0]; simp only [h0, if_true, show ((0 : Int) = 1) = False by simp, show ((0 : Int) = 2) = False by simp, show ((0 : Int) = 3) = False by simp, if_false, Int.add_zero] at f; exact f
    · rw [if_neg h0]
      by_cases h1 : bt s (i : Int) - 97 = 1
      · rw [if_pos h1]; simp only [h1, if_true, show ((1 : Int) = 0) = False by simp, show ((1 : Int) = 2) = False by simp, show ((1 : Int) = 3) = False by simp, if_false, Int.add_zero] at f; exact f
      · rw [if_neg h1]
        by_cases h2 : bt s (i : Int) - 97 = 2
        · rw [if_pos h2]; simp only [h2, if_true, show ((2 : Int) = 0) = False by simp, show ((2 : Int) = 1) = False by simp, show ((2 : Int) = 3) = False by simp, if_false, Int.add_zero] at f; exact f
        · have h3 : bt s (i : Int) - 97 = 3 := by omega
          rw [if_neg h2, if_pos h3]; simp only [h3, if_true, show ((3 : Int) = 0) = False by simp, show ((3 : Int) = 1) = False by simp, show ((3 : Int) = 2) = False by simp, if_false, Int.add_zero] at f; exact f

theorem tally_eq (s : ByteArray) (hs : s.size ≤ 16) (hv : okV s) (k : Nat) (hk : s.size < k) : impl_tallyOf.f k s = some (cn s 0 s.size, cn s 1 s.size, cn s 2 s.size, cn s 3 s.size) :=
  tally_l s hs hv s.size k 0 (by omega) hk

theorem counts_l (s : ByteArray) (hs : s.size ≤ 16) (hv : okV s) (d : Nat) : ∀ (k i : Nat), i + d = s.size → d < k → spec_voCounts.l0 k s [cn s 0 i, cn s 1 i, cn s 2 i, cn s 3 i] (i : Int) = some [cn s 0 s.size, cn s 1 s.size, cn s 2 s.size, cn s 3 s.size] := by
  induction d with
  | zero =>
    intro k i h1 h2
    obtain ⟨k, rfl⟩ : ∃ m, k = m + 1 := ⟨k - 1, by omega⟩
    obtain rfl : i = s.size := by omega
    simp only [spec_voCounts.l0]
    rw [if_neg (by omega)]
  | succ d ih =>
    intro k i h1 h2
    obtain ⟨k, rfl⟩ : ∃ m, k = m + 1 := ⟨k - 1, by omega⟩
    have hb := hv i (by omega)
    have em : (bt s (i : Int) - 97) % 256 = bt s (i : Int) - 97 := by omega
    have ew : wrap64 ((i : Int) + 1) = ((i + 1 : Nat) : Int) := by rw [w64 (by omega) (by omega)]; omega
    have f := ih k (i + 1) (by omega) (by omega)
    simp only [spec_voCounts.l0, em, ew, List.length_cons, List.length_nil]
    rw [if_pos (by omega), if_pos (by omega), if_pos (by omega), if_pos (by omega)]
    simp only [cn] at f
    by_cases h0 : bt s (i : Int) - 97 = 0
    · simp only [h0, if_true, show ((0 : Int) = 1) = False by simp, show ((0 : Int) = 2) = False by simp, show ((0 : Int) = 3) = False by simp, if_false, Int.add_zero] at f ⊢
      rw [show rd [cn s 0 i, cn s 1 i, cn s 2 i, cn s 3 i] 0 = cn s 0 i from rfl, wcn s 0 i (by omega)]; exact f
    · by_cases h1 : bt s (i : Int) - 97 = 1
      · simp only [h1, if_true, show ((1 : Int) = 0) = False by simp, show ((1 : Int) = 2) = False by simp, show ((1 : Int) = 3) = False by simp, if_false, Int.add_zero] at f ⊢
        rw [show rd [cn s 0 i, cn s 1 i, cn s 2 i, cn s 3 i] 1 = cn s 1 i from rfl, wcn s 1 i (by omega)]; exact f
      · by_cases h2 : bt s (i : Int) - 97 = 2
        · simp only [h2, if_true, show ((2 : Int) = 0) = False by simp, show ((2 : Int) = 1) = False by simp, show ((2 : Int) = 3) = False by simp, if_false, Int.add_zero] at f ⊢
          rw [show rd [cn s 0 i, cn s 1 i, cn s 2 i, cn s 3 i] 2 = cn s 2 i from rfl, wcn s 2 i (by omega)]; exact f
        · have h3 : bt s (i : Int) - 97 = 3 := by omega
          simp only [h3, if_true, show ((3 : Int) = 0) = False by simp, show ((3 : Int) = 1) = False by simp, show ((3 : Int) = 2) = False by simp, if_false, Int.add_zero] at f ⊢
          rw [show rd [cn s 0 i, cn s 1 i, cn s 2 i, cn s 3 i] 3 = cn s 3 i from rfl, wcn s 3 i (by omega)]; exact f

theorem counts_eq (s : ByteArray) (hs : s.size ≤ 16) (hv : okV s) (k : Nat) (hk : s.size < k) : spec_voCounts.f k s = some [cn s 0 s.size, cn s 1 s.size, cn s 2 s.size, cn s 3 s.size] := by
  unfold spec_voCounts.f
  rw [if_pos (by decide)]
  exact counts_l s hs hv s.size k 0 (by omega) hk

theorem falls_eq (a b c d : Int) (k : Nat) (hk : 5 < k) : spec_voFalls.f k [a, b, c, d] = some (decide (a ≥ b ∧ b ≥ c ∧ c ≥ d)) := by
  obtain ⟨k, rfl⟩ : ∃ m, k = m + 4 := ⟨k - 4, by omega⟩
  unfold spec_voFalls.f
  have w0 : wrap64 (1 - 1) = 0 := by rw [w64 (by omega) (by omega)]; rfl
  have w1 : wrap64 (2 - 1) = 1 := by rw [w64 (by omega) (by omega)]; rfl
  have w2 : wrap64 (3 - 1) = 2 := by rw [w64 (by omega) (by omega)]; rfl
  have v1 : wrap64 (1 + 1) = 2 := by rw [w64 (by omega) (by omega)]; rfl
  have v2 : wrap64 (2 + 1) = 3 := by rw [w64 (by omega) (by omega)]; rfl
  have v3 : wrap64 (3 + 1) = 4 := by rw [w64 (by omega) (by omega)]; rfl
  have r0 : rd [a, b, c, d] 0 = a := rfl
  have r1 : rd [a, b, c, d] 1 = b := rfl
  have r2 : rd [a, b, c, d] 2 = c := rfl
  have r3 : rd [a, b, c, d] 3 = d := rfl
  have l4 : (([a, b, c, d] : List Int).length : Int) = 4 := rfl
  simp only [spec_voFalls.l0, l4, w0, w1, w2, v1, v2, v3, r0, r1, r2, r3]
  simp only [show ((1 : Int) < 4) = True by simp, show ((2 : Int) < 4) = True by simp, show ((3 : Int) < 4) = True by simp, show ((0 : Int) < 4) = True by simp, show ((4 : Int) < 4) = False by simp, show ((0 : Int) ≤ 0) = True by simp, show ((0 : Int) ≤ 1) = True by simp, show ((0 : Int) ≤ 2) = True by simp, show ((0 : Int) ≤ 3) = True by simp, if_true, if_false]
  by_cases h1 : a < b
  · rw [if_pos h1, decide_eq_false (by omega)]
  · rw [if_neg h1]
    by_cases h2 : b < c
    · rw [if_pos h2, decide_eq_false (by omega)]
    · rw [if_neg h2]
      by_cases h3 : c < d
      · rw [if_pos h3, decide_eq_false (by omega)]
      · rw [if_neg h3, decide_eq_true (by omega)]

theorem ordered_eq (a b c d : Int) : impl_tally_isOrdered.f a b c d = some (decide (a ≥ b ∧ b ≥ c ∧ c ≥ d)) := by
  unfold impl_tally_isOrdered.f
  by_cases h1 : a ≥ b
  · rw [if_pos h1]
    by_cases h2 : b ≥ c
    · rw [if_pos h2]; congr 1; rw [decide_eq_decide]; omega
    · rw [if_neg h2, decide_eq_false (by omega)]
  · rw [if_neg h1, decide_eq_false (by omega)]


/-- The first number of votes behind which they are not ordered, from i on, or -1. -/
def fo (s : ByteArray) : Nat → Nat → Int
  | 0, _ => -1
  | d + 1, i => if ordv s (i + 1) = true then fo s d (i + 1) else ((i + 1 : Nat) : Int)
theorem fo_succ (s : ByteArray) (d i : Nat) : fo s (d + 1) i = if ordv s (i + 1) = true then fo s d (i + 1) else ((i + 1 : Nat) : Int) := rfl
theorem fo_le (s : ByteArray) : ∀ d i : Nat, fo s d i = -1 ∨ (1 ≤ fo s d i ∧ fo s d i ≤ i + d)
  | 0, _ => .inl rfl
  | d + 1, i => by
    rw [fo_succ]; split
    · have := fo_le s d (i + 1); omega
    · right; omega

theorem pre_cn (s : ByteArray) (m : Nat) (hm : m ≤ s.size) (c : Int) : cn (s.extract 0 m) c (s.extract 0 m).size = cn s c m := by
  rw [size_pre s m hm]; exact cn_congr _ _ c m (fun j hj => bt_extract s m j hm hj)

theorem over_l (s : ByteArray) (hs : s.size ≤ 16) (hv : okV s) (d : Nat) : ∀ (k i : Nat), i + d = s.size → d + 20 < k → impl_overtaken.l0 k s (s.size : Int) (i : Int) = some (fo s d i) := by
  induction d with
  | zero =>
    intro k i h1 h2
    obtain ⟨k, rfl⟩ : ∃ m, k = m + 1 := ⟨k - 1, by omega⟩
    simp only [impl_overtaken.l0]
    rw [if_neg (by omega)]; first | done | rfl
  | succ d ih =>
    intro k i h1 h2
    obtain ⟨k, rfl⟩ : ∃ m, k = m + 1 := ⟨k - 1, by omega⟩
    have ew : wrap64 ((i : Int) + 1) = ((i + 1 : Nat) : Int) := by rw [w64 (by omega) (by omega)]; omega
    simp only [impl_overtaken.l0, ew, Int.toNat_natCast]
    rw [if_pos (by omega), if_pos (by omega), if_pos (by omega), tally_eq _ (by rw [size_pre s _ (by omega)]; omega) (okV_pre s hv _ (by omega)) k (by rw [size_pre s _ (by omega)]; omega)]
    simp only [Option.bind_some, pre_cn s (i + 1) (by omega)]
    rw [ordered_eq]
    simp only [Option.bind_some]
    rw [ih k (i + 1) (by omega) (by omega)]
    show (if ordv s (i + 1) = true then _ else _) = some (fo s (d + 1) i)
    rw [fo_succ]; split <;> rfl

theorem first_l (s : ByteArray) (hs : s.size ≤ 16) (hv : okV s) (d : Nat) : ∀ (k i : Nat), i + d = s.size → d + 20 < k → spec_voFirst.l0 k s ((i + 1 : Nat) : Int) = some (fo s d i) := by
  induction d with
  | zero =>
    intro k i h1 h2
    obtain ⟨k, rfl⟩ : ∃ m, k = m + 1 := ⟨k - 1, by omega⟩
    simp only [spec_voFirst.l0]
    rw [if_neg (by omega)]; first | done | rfl
  | succ d ih =>
    intro k i h1 h2
    obtain ⟨k, rfl⟩ : ∃ m, k = m + 1 := ⟨k - 1, by omega⟩
    have ew : wrap64 (((i + 1 : Nat) : Int) + 1) = ((i + 1 + 1 : Nat) : Int) := by rw [w64 (by omega) (by omega)]; omega
    simp only [spec_voFirst.l0, ew, Int.toNat_natCast]
    rw [if_pos (by omega), if_pos (by omega), counts_eq _ (by rw [size_pre s _ (by omega)]; omega) (okV_pre s hv _ (by omega)) k (by rw [size_pre s _ (by omega)]; omega)]
    simp only [Option.bind_some, pre_cn s (i + 1) (by omega)]
    rw [falls_eq _ _ _ _ k (by omega)]
    simp only [Option.bind_some]
    rw [ih k (i + 1) (by omega) (by omega)]
    show (if ordv s (i + 1) = true then _ else _) = some (fo s (d + 1) i)
    rw [fo_succ]; split <;> rfl

theorem over_eq (s : ByteArray) (hs : s.size ≤ 16) (hv : okV s) (k : Nat) (hk : 40 < k) : impl_overtaken.f k s = some (fo s s.size 0) := over_l s hs hv s.size k 0 (by omega) (by omega)
theorem first_eq (s : ByteArray) (hs : s.size ≤ 16) (hv : okV s) (k : Nat) (hk : 40 < k) : spec_voFirst.f k s = some (fo s s.size 0) := first_l s hs hv s.size k 0 (by omega) (by omega)

/-- Are the votes ordered all along? -/
def ordAll (s : ByteArray) : Bool := decide (fo s s.size 0 < 0)
theorem areOrd_eq (s : ByteArray) (hs : s.size ≤ 140737488351232) (k : Nat) (hk : 60 < k) : impl_areOrderedVotes.f k s = some ((decide (s.size ≤ 16) && isV s) && ordAll s) := by
  unfold impl_areOrderedVotes.f
  rw [areVotes_eq s hs]
  by_cases h : s.size ≤ 16 ∧ isV s = true
  · have hc : (decide (s.size ≤ 16) && isV s) = true := by simp [h]
    have hv : okV s := (isV_bt s).mp h.2
    rw [hc]
    simp only [Option.bind_some, if_true]
    rw [over_eq s h.1 hv k (by omega)]
    rfl
  · have hc : (decide (s.size ≤ 16) && isV s) = false := by
      cases hh : (decide (s.size ≤ 16) && isV s) with
      | false => rfl
      | true => exact absurd (by simpa using hh) h
    rw [hc]; rfl

/-! ### ordered votes between two counts, plainly -/
def so (a b c d : Int) : Prop := a ≥ b ∧ b ≥ c ∧ c ≥ d
instance (a b c d : Int) : Decidable (so a b c d) := inferInstanceAs (Decidable (_ ∧ _))
def I (p : Prop) [Decidable p] (x : Nat) : Nat := if p then x else 0
theorem I_pos {p : Prop} [Decidable p] (h : p) (x : Nat) : I p x = x := if_pos h
theorem I_neg {p : Prop} [Decidable p] (h : ¬ p) (x : Nat) : I p x = 0 := if_neg h
theorem I_zero (p : Prop) [Decidable p] : I p 0 = 0 := by unfold I; split <;> rfl
theorem I_add (p : Prop) [Decidable p] (x y : Nat) : I p (x + y) = I p x + I p y := by unfold I; split <;> rfl
theorem I_comm (p q : Prop) [Decidable p] [Decidable q] (x : Nat) : I p (I q x) = I q (I p x) := by unfold I; split <;> split <;> rfl
/-- In how many ways m votes lead from counts to counts, ordered behind each. -/
def A : Nat → Int → Int → Int → Int → Int → Int → Int → Int → Nat
  | 0, a, b, c, d, t0, t1, t2, t3 => I (a = t0 ∧ b = t1 ∧ c = t2 ∧ d = t3) 1
  | m + 1, a, b, c, d, t0, t1, t2, t3 => I (so (a + 1) b c d) (A m (a + 1) b c d t0 t1 t2 t3) + I (so a (b + 1) c d) (A m a (b + 1) c d t0 t1 t2 t3) + I (so a b (c + 1) d) (A m a b (c + 1) d t0 t1 t2 t3) + I (so a b c (d + 1)) (A m a b c (d + 1) t0 t1 t2 t3)
theorem A_succ (m : Nat) (a b c d t0 t1 t2 t3 : Int) : A (m + 1) a b c d t0 t1 t2 t3 = I (so (a + 1) b c d) (A m (a + 1) b c d t0 t1 t2 t3) + I (so a (b + 1) c d) (A m a (b + 1) c d t0 t1 t2 t3) + I (so a b (c + 1) d) (A m a b (c + 1) d t0 t1 t2 t3) + I (so a b c (d + 1)) (A m a b c (d + 1) t0 t1 t2 t3) := rfl
theorem A_zero (t0 t1 t2 t3 : Int) : ∀ (m : Nat) (a b c d : Int), (t0 < a ∨ t1 < b ∨ t2 < c ∨ t3 < d) → A m a b c d t0 t1 t2 t3 = 0
  | 0, a, b, c, d, h => I_neg (by omega) _
  | m + 1, a, b, c, d, h => by
    rw [A_succ, A_zero t0 t1 t2 t3 m (a + 1) b c d (by omega), A_zero t0 t1 t2 t3 m a (b + 1) c d (by omega), A_zero t0 t1 t2 t3 m a b (c + 1) d (by omega), A_zero t0 t1 t2 t3 m a b c (d + 1) (by omega), I_zero, I_zero, I_zero, I_zero]
theorem A_le (t0 t1 t2 t3 : Int) : ∀ (m : Nat) (a b c d : Int), A m a b c d t0 t1 t2 t3 ≤ 4 ^ m
  | 0, a, b, c, d => by unfold A I; split <;> omega
  | m + 1, a, b, c, d => by
    have hI : ∀ (p : Prop) [Decidable p] (x : Nat), I p x ≤ x := fun p _ x => by unfold I; split <;> omega
    have h1 := Nat.le_trans (hI (so (a + 1) b c d) _) (A_le t0 t1 t2 t3 m (a + 1) b c d)
    have h2 := Nat.le_trans (hI (so a (b + 1) c d) _) (A_le t0 t1 t2 t3 m a (b + 1) c d)
    have h3 := Nat.le_trans (hI (so a b (c + 1) d) _) (A_le t0 t1 t2 t3 m a b (c + 1) d)
    have h4 := Nat.le_trans (hI (so a b c (d + 1)) _) (A_le t0 t1 t2 t3 m a b c (d + 1))
    rw [A_succ, Nat.pow_succ]
    omega
theorem A_base {p q : Prop} [Decidable p] [Decidable q] {r s : Prop} [Decidable r] [Decidable s] (h : (p ∧ r) ↔ (q ∧ s)) : I p (I r 1) = I q (I s 1) := by
  unfold I
  by_cases h1 : p <;> by_cases h2 : q <;> by_cases h3 : r <;> by_cases h4 : s <;> simp_all
/-- The last vote, told apart. -/
theorem A_last (t0 t1 t2 t3 : Int) : ∀ (m : Nat) (t0 t1 t2 t3 a b c d : Int), so a b c d → so t0 t1 t2 t3 → A (m + 1) a b c d t0 t1 t2 t3 = I (so (t0 - 1) t1 t2 t3) (A m a b c d (t0 - 1) t1 t2 t3) + I (so t0 (t1 - 1) t2 t3) (A m a b c d t0 (t1 - 1) t2 t3) + I (so t0 t1 (t2 - 1) t3) (A m a b c d t0 t1 (t2 - 1) t3) + I (so t0 t1 t2 (t3 - 1)) (A m a b c d t0 t1 t2 (t3 - 1))
  | 0, t0, t1, t2, t3, a, b, c, d, h, ht => by
    rw [A_succ]
    unfold so at h ht
    have e0 : I (so (a + 1) b c d) (A 0 (a + 1) b c d t0 t1 t2 t3) = I (so (t0 - 1) t1 t2 t3) (A 0 a b c d (t0 - 1) t1 t2 t3) := A_base (by unfold so; omega)
    have e1 : I (so a (b + 1) c d) (A 0 a (b + 1) c d t0 t1 t2 t3) = I (so t0 (t1 - 1) t2 t3) (A 0 a b c d t0 (t1 - 1) t2 t3) := A_base (by unfold so; omega)
    have e2 : I (so a b (c + 1) d) (A 0 a b (c + 1) d t0 t1 t2 t3) = I (so t0 t1 (t2 - 1) t3) (A 0 a b c d t0 t1 (t2 - 1) t3) := A_base (by unfold so; omega)
    have e3 : I (so a b c (d + 1)) (A 0 a b c (d + 1) t0 t1 t2 t3) = I (so t0 t1 t2 (t3 - 1)) (A 0 a b c d t0 t1 t2 (t3 - 1)) := A_base (by unfold so; omega)
    rw [e0, e1, e2, e3]
  | m + 1, t0, t1, t2, t3, a, b, c, d, h, ht => by
    have go : ∀ a' b' c' d' : Int, I (so a' b' c' d') (A (m + 1) a' b' c' d' t0 t1 t2 t3) = I (so (t0 - 1) t1 t2 t3) (I (so a' b' c' d') (A m a' b' c' d' (t0 - 1) t1 t2 t3)) + I (so t0 (t1 - 1) t2 t3) (I (so a' b' c' d') (A m a' b' c' d' t0 (t1 - 1) t2 t3)) + I (so t0 t1 (t2 - 1) t3) (I (so a' b' c' d') (A m a' b' c' d' t0 t1 (t2 - 1) t3)) + I (so t0 t1 t2 (t3 - 1)) (I (so a' b' c' d') (A m a' b' c' d' t0 t1 t2 (t3 - 1))) := by
      intro a' b' c' d'
      by_cases hs : so a' b' c' d'
      · rw [I_pos hs, I_pos hs, I_pos hs, I_pos hs, I_pos hs]
        exact A_last t0 t1 t2 t3 m t0 t1 t2 t3 a' b' c' d' hs ht
      · rw [I_neg hs, I_neg hs, I_neg hs, I_neg hs, I_neg hs, I_zero, I_zero, I_zero, I_zero]
    rw [A_succ, go (a + 1) b c d, go a (b + 1) c d, go a b (c + 1) d, go a b c (d + 1), A_succ m a b c d (t0 - 1), A_succ m a b c d t0 (t1 - 1), A_succ m a b c d t0 t1 (t2 - 1), A_succ m a b c d t0 t1 t2 (t3 - 1)]
    simp only [I_add]
    omega

/-! ### the program's memo tells the same -/
theorem one_eq (of : Int → Int → Int → Int → Option Int) (x y b0 b1 b2 b3 out : Int) (n : Nat) (hz : y < x → n = 0) (hof : x ≤ y → so b0 b1 b2 b3 → of b0 b1 b2 b3 = some (n : Int)) (ho0 : 0 ≤ out) (ho : out + n ≤ 9223372036854775807) :
    impl_votesOn_2.one of x y b0 b1 b2 b3 out = some (out + (I (so b0 b1 b2 b3) n : Nat)) := by
  unfold impl_votesOn_2.one
  by_cases h : x ≤ y
  · rw [if_pos h, ordered_eq, Option.bind_some]
    by_cases hs : so b0 b1 b2 b3
    · rw [decide_eq_true (show b0 ≥ b1 ∧ b1 ≥ b2 ∧ b2 ≥ b3 from hs), if_pos rfl, hof h hs, Option.bind_some, I_pos hs, w64 (by omega) (by omega)]
    · rw [decide_eq_false (show ¬ (b0 ≥ b1 ∧ b1 ≥ b2 ∧ b2 ≥ b3) from hs), if_neg (by decide), I_neg hs]; simp
  · rw [if_neg h, hz (by omega), I_zero]; simp
theorem g_eq (t0 t1 t2 t3 : Int) (h16 : t0 ≤ 16) (ht : so t0 t1 t2 t3) : ∀ (m : Nat), m ≤ 16 → ∀ (a b c d : Int) (k : Nat), m < k → so a b c d → 0 ≤ d → a ≤ t0 → b ≤ t1 → c ≤ t2 → d ≤ t3 → (t0 + t1 + t2 + t3) - (a + b + c + d) = m →
    impl_votesOn_2.g t0 t1 t2 t3 k a b c d = some (A m a b c d t0 t1 t2 t3 : Int) := by
  intro m
  induction m with
  | zero =>
    intro hm a b c d k hk hs h0 ha hb hc hd hsum
    obtain ⟨k, rfl⟩ : ∃ j, k = j + 1 := ⟨k - 1, by omega⟩
    have e : a = t0 ∧ b = t1 ∧ c = t2 ∧ d = t3 := by omega
    show (if a = t0 ∧ b = t1 ∧ c = t2 ∧ d = t3 then some 1 else _) = _
    rw [if_pos e]
    unfold A
    rw [I_pos e]; rfl
  | succ m ih =>
    intro hm a b c d k hk hs h0 ha hb hc hd hsum
    obtain ⟨k, rfl⟩ : ∃ j, k = j + 1 := ⟨k - 1, by omega⟩
    have e : ¬ (a = t0 ∧ b = t1 ∧ c = t2 ∧ d = t3) := by omega
    have hle : ∀ a b c d : Int, A m a b c d t0 t1 t2 t3 ≤ 4294967296 := fun a b c d => Nat.le_trans (A_le _ _ _ _ _ _ _ _ _) (by have : 4 ^ m ≤ 4 ^ 16 := Nat.pow_le_pow_right (by decide) (by omega); omega)
    have hI : ∀ (p : Prop) [Decidable p] (x : Nat), x ≤ 4294967296 → I p x ≤ 4294967296 := fun p _ x hx => by unfold I; split <;> omega
    unfold so at hs ht
    have wa : wrap64 (a + 1) = a + 1 := w64 (by omega) (by omega)
    have wb : wrap64 (b + 1) = b + 1 := w64 (by omega) (by omega)
    have wc : wrap64 (c + 1) = c + 1 := w64 (by omega) (by omega)
    have wd : wrap64 (d + 1) = d + 1 := w64 (by omega) (by omega)
    have n0 := hle (a + 1) b c d
    have n1 := hle a (b + 1) c d
    have n2 := hle a b (c + 1) d
    have n3 := hle a b c (d + 1)
    have q0 := hI (so (a + 1) b c d) _ n0
    have q1 := hI (so a (b + 1) c d) _ n1
    have q2 := hI (so a b (c + 1) d) _ n2
    have s0 := one_eq (impl_votesOn_2.g t0 t1 t2 t3 k) (a + 1) t0 (a + 1) b c d 0 (A m (a + 1) b c d t0 t1 t2 t3) (fun h => A_zero _ _ _ _ _ _ _ _ _ (by omega)) (fun h hs' => ih (by omega) _ _ _ _ k (by omega) hs' h0 h hb hc hd (by omega)) (by omega) (by omega)
    have s1 := one_eq (impl_votesOn_2.g t0 t1 t2 t3 k) (b + 1) t1 a (b + 1) c d (0 + (I (so (a + 1) b c d) (A m (a + 1) b c d t0 t1 t2 t3) : Nat)) (A m a (b + 1) c d t0 t1 t2 t3) (fun h => A_zero _ _ _ _ _ _ _ _ _ (by omega)) (fun h hs' => ih (by omega) _ _ _ _ k (by omega) hs' h0 ha h hc hd (by omega)) (by omega) (by omega)
    have s2 := one_eq (impl_votesOn_2.g t0 t1 t2 t3 k) (c + 1) t2 a b (c + 1) d (0 + (I (so (a + 1) b c d) (A m (a + 1) b c d t0 t1 t2 t3) : Nat) + (I (so a (b + 1) c d) (A m a (b + 1) c d t0 t1 t2 t3) : Nat)) (A m a b (c + 1) d t0 t1 t2 t3) (fun h => A_zero _ _ _ _ _ _ _ _ _ (by omega)) (fun h hs' => ih (by omega) _ _ _ _ k (by omega) hs' h0 ha hb h hd (by omega)) (by omega) (by omega)
    have s3 := one_eq (impl_votesOn_2.g t0 t1 t2 t3 k) (d + 1) t3 a b c (d + 1) (0 + (I (so (a + 1) b c d) (A m (a + 1) b c d t0 t1 t2 t3) : Nat) + (I (so a (b + 1) c d) (A m a (b + 1) c d t0 t1 t2 t3) : Nat) + (I (so a b (c + 1) d) (A m a b (c + 1) d t0 t1 t2 t3) : Nat)) (A m a b c (d + 1) t0 t1 t2 t3) (fun h => A_zero _ _ _ _ _ _ _ _ _ (by omega)) (fun h hs' => ih (by omega) _ _ _ _ k (by omega) hs' (by omega) ha hb hc h (by omega)) (by omega) (by omega)
    show (if a = t0 ∧ b = t1 ∧ c = t2 ∧ d = t3 then some 1 else impl_votesOn_2.sum (impl_votesOn_2.g t0 t1 t2 t3 k) t0 t1 t2 t3 a b c d 4 0) = _
    rw [if_neg e]
    simp only [impl_votesOn_2.sum, impl_votesOn_2.step, wa, wb, wc, wd, s0, s1, s2, s3, Option.bind_some]
    rw [A_succ]
    congr 1
    omega

/-! ### the reference's table tells the same -/
def code (a b c d : Int) : Int := ((a * 17 + b) * 17 + c) * 17 + d
theorem voSame_eq (a b c d t0 t1 t2 t3 : Int) (k : Nat) (hk : 5 < k) : spec_voSame.f k [a, b, c, d] [t0, t1, t2, t3] = some (decide (a = t0 ∧ b = t1 ∧ c = t2 ∧ d = t3)) := by
  obtain ⟨k, rfl⟩ : ∃ m, k = m + 5 := ⟨k - 5, by omega⟩
  unfold spec_voSame.f
  simp only [spec_voSame.l0, l4_, v1_, v2_, v3_, v4_, r0_, r1_, r2_, r3_, c04, c14, c24, c34, c44, c00, c01, c02, c03, if_true, if_false]
  by_cases h0 : a = t0
  · rw [if_pos h0]
    by_cases h1 : b = t1
    · rw [if_pos h1]
      by_cases h2 : c = t2
      · rw [if_pos h2]
        by_cases h3 : d = t3
        · rw [if_pos h3, decide_eq_true ⟨h0, h1, h2, h3⟩]
        · rw [if_neg h3, decide_eq_false (by omega)]
      · rw [if_neg h2, decide_eq_false (by omega)]
    · rw [if_neg h1, decide_eq_false (by omega)]
  · rw [if_neg h0, decide_eq_false (by omega)]
theorem voCode_eq (a b c d : Int) (h0 : 0 ≤ a ∧ a ≤ 17) (h1 : 0 ≤ b ∧ b ≤ 17) (h2 : 0 ≤ c ∧ c ≤ 17) (h3 : 0 ≤ d ∧ d ≤ 17) (k : Nat) (hk : 5 < k) : spec_voCode.f k [a, b, c, d] = some (code a b c d) := by
  obtain ⟨k, rfl⟩ : ∃ m, k = m + 5 := ⟨k - 5, by omega⟩
  unfold spec_voCode.f
  simp only [spec_voCode.l0, l4_, v1_, v2_, v3_, v4_, r0_, r1_, r2_, r3_, c04, c14, c24, c34, c44, c00, c01, c02, c03, if_true, if_false]
  have e0 : wrap64 (0 * 17) = 0 := by rw [w64 (by omega) (by omega)]; rfl
  have e1 : wrap64 (0 + a) = a := by rw [w64 (by omega) (by omega)]; omega
  have e2 : wrap64 (a * 17) = a * 17 := w64 (by omega) (by omega)
  have e3 : wrap64 (a * 17 + b) = a * 17 + b := w64 (by omega) (by omega)
  have e4 : wrap64 ((a * 17 + b) * 17) = (a * 17 + b) * 17 := w64 (by omega) (by omega)
  have e5 : wrap64 ((a * 17 + b) * 17 + c) = (a * 17 + b) * 17 + c := w64 (by omega) (by omega)
  have e6 : wrap64 (((a * 17 + b) * 17 + c) * 17) = ((a * 17 + b) * 17 + c) * 17 := w64 (by omega) (by omega)
  have e7 : wrap64 (((a * 17 + b) * 17 + c) * 17 + d) = ((a * 17 + b) * 17 + c) * 17 + d := w64 (by omega) (by omega)
  rw [e0, e1, e2, e3, e4, e5, e6, e7]
  rfl
theorem own_eq (l : List Int) (h : l.length < 17592186044416) : spec_l1Own.f l = some l := by
  unfold spec_l1Own.f
  rw [Option.bind_some, if_pos (by simpa using h)]; rfl
theorem rd_set_same (x : List Int) (q v : Int) (h0 : 0 ≤ q) (h1 : q < x.length) : rd (x.set q.toNat v) q = v := by
  have e : q = (q.toNat : Int) := by omega
  rw [e, Int.toNat_natCast, rd_nat _ _ (by rw [List.length_set]; omega), List.getElem_set_self]
theorem rd_set_other (x : List Int) (q p v : Int) (h0 : 0 ≤ q) (h1 : q < x.length) (h2 : 0 ≤ p) (h : q ≠ p) : rd (x.set p.toNat v) q = rd x q := by
  have e : q = (q.toNat : Int) := by omega
  rw [e, rd_nat _ _ (by rw [List.length_set]; omega), List.getElem_set_ne (by omega), ← rd_nat _ _ (by omega)]
/-- The table holds what is right at all counts whose number is beyond lo. -/
def Tab (t0 t1 t2 t3 lo : Int) (x : List Int) : Prop := x.length = 83521 ∧ ∀ p q r s : Int, so p q r s → 0 ≤ s → p ≤ t0 → q ≤ t1 → r ≤ t2 → s ≤ t3 → lo < code p q r s → rd x (code p q r s) = (A (t0 + t1 + t2 + t3 - (p + q + r + s)).toNat p q r s t0 t1 t2 t3 : Int)
theorem code_inj {a b c d p q r s : Int} (h0 : 0 ≤ b ∧ b ≤ 16) (h1 : 0 ≤ c ∧ c ≤ 16) (h2 : 0 ≤ d ∧ d ≤ 16) (g0 : 0 ≤ q ∧ q ≤ 16) (g1 : 0 ≤ r ∧ r ≤ 16) (g2 : 0 ≤ s ∧ s ≤ 16) (h : code a b c d = code p q r s) : a = p ∧ b = q ∧ c = r ∧ d = s := by
  unfold code at h
  omega
theorem Tab.put {t0 t1 t2 t3 : Int} (ht : t0 ≤ 16 ∧ t1 ≤ 16 ∧ t2 ≤ 16 ∧ t3 ≤ 16) {x : List Int} {a b c d v : Int} (hs : so a b c d) (h0 : 0 ≤ d) (ha : a ≤ t0) (hb : b ≤ t1) (hc : c ≤ t2) (hd : d ≤ t3) (h : Tab t0 t1 t2 t3 (code a b c d) x) (hv : v = (A (t0 + t1 + t2 + t3 - (a + b + c + d)).toNat a b c d t0 t1 t2 t3 : Int)) :
    Tab t0 t1 t2 t3 (code a b c (d - 1)) (x.set (code a b c d).toNat v) := by
  obtain ⟨h1, h2⟩ := h
  have hc0 : 0 ≤ code a b c d ∧ code a b c d < 83521 := by unfold code; unfold so at hs; omega
  refine ⟨by rw [List.length_set]; exact h1, fun p q r s hps hs0 hp hq hr hs3 hlo => ?_⟩
  have hc1 : 0 ≤ code p q r s ∧ code p q r s < 83521 := by unfold code; unfold so at hps; omega
  by_cases e : code p q r s = code a b c d
  · have e' := code_inj (by unfold so at hps; omega) (by unfold so at hps; omega) (by omega) (by unfold so at hs; omega) (by unfold so at hs; omega) (by omega) e
    obtain ⟨rfl, rfl, rfl, rfl⟩ := e'
    rw [rd_set_same _ _ _ hc1.1 (by omega), hv]
  · rw [rd_set_other _ _ _ _ hc1.1 (by omega) hc0.1 e]
    exact h2 p q r s hps hs0 hp hq hr hs3 (by unfold code at hlo e ⊢; omega)
section
variable (t0 t1 t2 t3 : Int) (ht : so t0 t1 t2 t3) (h16 : t0 ≤ 16) (ht0 : 0 ≤ t3) (hsum : t0 + t1 + t2 + t3 ≤ 16) (r : List Int) (x : List Int) (a b c d : Int)
theorem mw1 (x : Int) (h0 : -9 ≤ x) (h1 : x ≤ 99) : wrap64 (x - 1) = x - 1 := w64 (by omega) (by omega)
theorem mw2 (x : Int) (h0 : -9 ≤ x) (h1 : x ≤ 99) : wrap64 (x + 1) = x + 1 := w64 (by omega) (by omega)
theorem s0_ (v : Int) : ([a, b, c, d] : List Int).set (0 : Int).toNat v = [v, b, c, d] := rfl
theorem s1_ (v : Int) : ([a, b, c, d] : List Int).set (1 : Int).toNat v = [a, v, c, d] := rfl
theorem s2_ (v : Int) : ([a, b, c, d] : List Int).set (2 : Int).toNat v = [a, b, v, d] := rfl
theorem s3_ (v : Int) : ([a, b, c, d] : List Int).set (3 : Int).toNat v = [a, b, c, v] := rfl
include ht h16 ht0 hsum in
/-- One entry that is no end: the sum over what goes on. -/
theorem l4_eq (hx : Tab t0 t1 t2 t3 (code a b c d) x) (hs : so a b c d) (h0 : 0 ≤ d) (ha : a ≤ t0) (hb : b ≤ t1) (hc : c ≤ t2) (hd : d ≤ t3) (hne : ¬ (a = t0 ∧ b = t1 ∧ c = t2 ∧ d = t3)) (k : Nat) :
    spec_voTable.l4 (k + 30) [t0, t1, t2, t3] x a b c d [a, b, c, d] 0 4 0 = spec_voTable.l3 (k + 21) [t0, t1, t2, t3] (x.set (code a b c d).toNat (A (t0 + t1 + t2 + t3 - (a + b + c + d)).toNat a b c d t0 t1 t2 t3 : Int)) a b c (d - 1) := by
  have hs' := hs
  have ht' := ht
  unfold so at hs' ht'
  obtain ⟨m, hm⟩ : ∃ m : Nat, (t0 + t1 + t2 + t3 - (a + b + c + d)).toNat = m + 1 := ⟨(t0 + t1 + t2 + t3 - (a + b + c + d)).toNat - 1, by omega⟩
  have hle : ∀ a b c d : Int, A m a b c d t0 t1 t2 t3 ≤ 4294967296 := fun a b c d => Nat.le_trans (A_le _ _ _ _ _ _ _ _ _) (by have : 4 ^ m ≤ 4 ^ 16 := Nat.pow_le_pow_right (by decide) (by omega); omega)
  have hI : ∀ (p : Prop) [Decidable p] (x : Nat), x ≤ 4294967296 → I p x ≤ 4294967296 := fun p _ x hx => by unfold I; split <;> omega
  have look : ∀ p q r s : Int, so p q r s → 0 ≤ s → p ≤ t0 → q ≤ t1 → r ≤ t2 → s ≤ t3 → p + q + r + s = a + b + c + d + 1 → code a b c d < code p q r s → rd x (code p q r s) = (A m p q r s t0 t1 t2 t3 : Int) := fun p q r s h1 h2 h3 h4 h5 h6 h7 h8 => by
    rw [hx.2 p q r s h1 h2 h3 h4 h5 h6 h8, show (t0 + t1 + t2 + t3 - (p + q + r + s)).toNat = m by omega]
  have cd : ∀ p q r s : Int, 0 ≤ p ∧ p ≤ 17 → 0 ≤ q ∧ q ≤ 17 → 0 ≤ r ∧ r ≤ 17 → 0 ≤ s ∧ s ≤ 17 → ∀ j : Nat, spec_voCode.f (j + 6) [p, q, r, s] = some (code p q r s) := fun p q r s h0 h1 h2 h3 j => voCode_eq p q r s h0 h1 h2 h3 _ (by omega)
  have hl := hx.1
  have hw : ∀ (v : Int) (p : Prop) [Decidable p] (n : Nat), 0 ≤ v → v ≤ 12884901888 → n ≤ 4294967296 → wrap64 (v + (n : Int)) = v + (n : Int) := fun v p _ n h1 h2 h3 => w64 (by omega) (by omega)
  have R0 : ∀ v : Int, 0 ≤ v → v ≤ 12884901888 → spec_voTable.l4 (k + 30) [t0, t1, t2, t3] x a b c d [a, b, c, d] v 4 0 = spec_voTable.l4 (k + 28) [t0, t1, t2, t3] x a b c d [a, b, c, d] (v + (I (so (a + 1) b c d) (A m (a + 1) b c d t0 t1 t2 t3) : Nat)) 4 1 := by
    intro v hv0 hv1
    rw [spec_voTable.l4]; simp only [l4_, r0_, r1_, r2_, r3_, c04, c14, c24, c34, c44, c00, c01, c02, c03, if_true, if_false, v1_]
    by_cases h : a < t0
    · rw [if_pos h]
      have hso : so (a + 1) b c d := by unfold so; omega
      rw [spec_voTable.j5]; simp only [if_true, own_eq [a, b, c, d] (by simp), Option.bind_some, c00, l4_, c04, r0_, s0_, mw2 a (by omega) (by omega), cd (a + 1) b c d (by omega) (by omega) (by omega) (by omega)]
      rw [if_pos (by unfold code; omega), if_pos (by rw [hl]; unfold code; omega), look (a + 1) b c d hso h0 (by omega) hb hc hd (by omega) (by unfold code; omega), hw v True _ hv0 hv1 (hle _ _ _ _), I_pos hso, v1_]
    · rw [if_neg h]
      rw [spec_voTable.j5]
      rw [if_neg (by decide), A_zero _ _ _ _ m _ _ _ _ (by omega), I_zero, v1_]; simp
  have R1 : ∀ v : Int, 0 ≤ v → v ≤ 12884901888 → spec_voTable.l4 (k + 28) [t0, t1, t2, t3] x a b c d [a, b, c, d] v 4 1 = spec_voTable.l4 (k + 26) [t0, t1, t2, t3] x a b c d [a, b, c, d] (v + (I (so a (b + 1) c d) (A m a (b + 1) c d t0 t1 t2 t3) : Nat)) 4 2 := by
    intro v hv0 hv1
    have e1 : wrap64 (1 - 1) = 0 := by rw [w64 (by omega) (by omega)]; rfl
    rw [spec_voTable.l4]; simp only [l4_, r0_, r1_, r2_, r3_, c04, c14, c24, c34, c44, c00, c01, c02, c03, if_true, if_false, v2_, e1]
    rw [if_neg (show ¬ (1 : Int) = 0 by decide)]
    by_cases h : b < t1
    · rw [if_pos h]
      by_cases h2 : a > b
      · have hso : so a (b + 1) c d := by unfold so; omega
        rw [decide_eq_true h2]
        rw [spec_voTable.j5]; simp only [if_true, own_eq [a, b, c, d] (by simp), Option.bind_some, c01, l4_, c14, r1_, s1_, mw2 b (by omega) (by omega), cd a (b + 1) c d (by omega) (by omega) (by omega) (by omega)]
        rw [if_pos (by unfold code; omega), if_pos (by rw [hl]; unfold code; omega), look a (b + 1) c d hso h0 (by omega) (by omega) hc hd (by omega) (by unfold code; omega), hw v True _ hv0 hv1 (hle _ _ _ _), I_pos hso, v2_]
      · rw [decide_eq_false h2]
        rw [spec_voTable.j5]
        rw [if_neg (by decide), I_neg (by unfold so; omega), v2_]; simp
    · rw [if_neg h]
      rw [spec_voTable.j5]
      rw [if_neg (by decide), A_zero _ _ _ _ m _ _ _ _ (by omega), I_zero, v2_]; simp
  have R2 : ∀ v : Int, 0 ≤ v → v ≤ 12884901888 → spec_voTable.l4 (k + 26) [t0, t1, t2, t3] x a b c d [a, b, c, d] v 4 2 = spec_voTable.l4 (k + 24) [t0, t1, t2, t3] x a b c d [a, b, c, d] (v + (I (so a b (c + 1) d) (A m a b (c + 1) d t0 t1 t2 t3) : Nat)) 4 3 := by
    intro v hv0 hv1
    have e1 : wrap64 (2 - 1) = 1 := by rw [w64 (by omega) (by omega)]; rfl
    rw [spec_voTable.l4]; simp only [l4_, r0_, r1_, r2_, r3_, c04, c14, c24, c34, c44, c00, c01, c02, c03, if_true, if_false, v3_, e1]
    rw [if_neg (show ¬ (2 : Int) = 0 by decide)]
    by_cases h : c < t2
    · rw [if_pos h]
      by_cases h2 : b > c
      · have hso : so a b (c + 1) d := by unfold so; omega
        rw [decide_eq_true h2]
        rw [spec_voTable.j5]; simp only [if_true, own_eq [a, b, c, d] (by simp), Option.bind_some, c02, l4_, c24, r2_, s2_, mw2 c (by omega) (by omega), cd a b (c + 1) d (by omega) (by omega) (by omega) (by omega)]
        rw [if_pos (by unfold code; omega), if_pos (by rw [hl]; unfold code; omega), look a b (c + 1) d hso h0 (by omega) (by omega) (by omega) hd (by omega) (by unfold code; omega), hw v True _ hv0 hv1 (hle _ _ _ _), I_pos hso, v3_]
      · rw [decide_eq_false h2]
        rw [spec_voTable.j5]
        rw [if_neg (by decide), I_neg (by unfold so; omega), v3_]; simp
    · rw [if_neg h]
      rw [spec_voTable.j5]
      rw [if_neg (by decide), A_zero _ _ _ _ m _ _ _ _ (by omega), I_zero, v3_]; simp
  have R3 : ∀ v : Int, 0 ≤ v → v ≤ 12884901888 → spec_voTable.l4 (k + 24) [t0, t1, t2, t3] x a b c d [a, b, c, d] v 4 3 = spec_voTable.l4 (k + 22) [t0, t1, t2, t3] x a b c d [a, b, c, d] (v + (I (so a b c (d + 1)) (A m a b c (d + 1) t0 t1 t2 t3) : Nat)) 4 4 := by
    intro v hv0 hv1
    have e1 : wrap64 (3 - 1) = 2 := by rw [w64 (by omega) (by omega)]; rfl
    rw [spec_voTable.l4]; simp only [l4_, r0_, r1_, r2_, r3_, c04, c14, c24, c34, c44, c00, c01, c02, c03, if_true, if_false, v4_, e1]
    rw [if_neg (show ¬ (3 : Int) = 0 by decide)]
    by_cases h : d < t3
    · rw [if_pos h]
      by_cases h2 : c > d
      · have hso : so a b c (d + 1) := by unfold so; omega
        rw [decide_eq_true h2]
        rw [spec_voTable.j5]; simp only [if_true, own_eq [a, b, c, d] (by simp), Option.bind_some, c03, l4_, c34, r3_, s3_, mw2 d (by omega) (by omega), cd a b c (d + 1) (by omega) (by omega) (by omega) (by omega)]
        rw [if_pos (by unfold code; omega), if_pos (by rw [hl]; unfold code; omega), look a b c (d + 1) hso (by omega) (by omega) (by omega) (by omega) (by omega) (by omega) (by unfold code; omega), hw v True _ hv0 hv1 (hle _ _ _ _), I_pos hso, v4_]
      · rw [decide_eq_false h2]
        rw [spec_voTable.j5]
        rw [if_neg (by decide), I_neg (by unfold so; omega), v4_]; simp
    · rw [if_neg h]
      rw [spec_voTable.j5]
      rw [if_neg (by decide), A_zero _ _ _ _ m _ _ _ _ (by omega), I_zero, v4_]; simp
  have q0 := hI (so (a + 1) b c d) _ (hle (a + 1) b c d)
  have q1 := hI (so a (b + 1) c d) _ (hle a (b + 1) c d)
  have q2 := hI (so a b (c + 1) d) _ (hle a b (c + 1) d)
  rw [R0 0 (by omega) (by omega), R1 _ (by omega) (by omega), R2 _ (by omega) (by omega), R3 _ (by omega) (by omega)]
  rw [spec_voTable.l4]; simp only [c44, if_false, cd a b c d (by omega) (by omega) (by omega) (by omega), Option.bind_some]
  rw [if_pos (by unfold code; omega), if_pos (by rw [hl]; unfold code; omega), mw1 d (by omega) (by omega), hm, A_succ]
  congr 2
  omega
end

/-! ### the table is filled -/
theorem least_eq (x y : Int) : ∃ m, spec_l1Least.f x y = some m ∧ m ≤ x ∧ m ≤ y ∧ (m = x ∨ m = y) := by
  unfold spec_l1Least.f
  by_cases h : x < y
  · exact ⟨x, by rw [if_pos h], by omega, by omega, .inl rfl⟩
  · exact ⟨y, by rw [if_neg h], by omega, by omega, .inr rfl⟩
theorem codeE3 (a b c : Int) : code a b (c - 1) 16 = code a b c (-1) := by unfold code; omega
theorem codeE2 (a b : Int) : code a (b - 1) 16 16 = code a b (-1) 16 := by unfold code; omega
theorem codeE1 (a : Int) : code (a - 1) 16 16 16 = code a (-1) 16 16 := by unfold code; omega
theorem codeE0 : code (-1) 16 16 16 = -1 := by unfold code; omega
theorem cmp17 (X Y m s : Int) (hs : 0 ≤ s ∧ s ≤ 16) (hm : 0 ≤ m) (h : X * 17 + m < Y * 17 + s) (h' : Y * 17 + s ≤ X * 17 + 16) : X = Y ∧ m < s := by omega
theorem eq17 (U V c r : Int) (hc : 0 ≤ c ∧ c ≤ 16) (hr : 0 ≤ r ∧ r ≤ 16) (h : U * 17 + c = V * 17 + r) : U = V ∧ c = r := by omega
theorem lt17 (X Y s : Int) (hs : s ≤ 16) (h : X * 17 + 16 < Y * 17 + s) : X < Y := by omega
theorem le17 (X Y s : Int) (hs : 0 ≤ s) (h : Y * 17 + s ≤ X * 17 + 16) : Y ≤ X := by omega
theorem up3 {a b c m p q r s t : Int} (hm : m = c ∨ m = t) (hc : 0 ≤ c ∧ c ≤ 16) (ht : 0 ≤ t) (hr : 0 ≤ r ∧ r ≤ 16) (hs : 0 ≤ s ∧ s ≤ 16) (h1 : s ≤ r) (h2 : s ≤ t) (h : code a b c m < code p q r s) : code a b c 16 < code p q r s := by
  unfold code at h ⊢
  by_cases h3 : (((a * 17 + b) * 17 + c) * 17 + 16) < (((p * 17 + q) * 17 + r) * 17 + s)
  · exact h3
  · replace h3 := Int.not_lt.mp h3
    obtain ⟨e1, e2⟩ := cmp17 _ _ _ _ hs (by rcases hm with h | h <;> rw [h]; exact hc.1; exact ht) h h3
    obtain ⟨_, e3⟩ := eq17 _ _ _ _ hc hr e1
    rcases hm with h | h <;> omega
theorem up2 {a b m p q r s t : Int} (hm : m = b ∨ m = t) (hb : 0 ≤ b ∧ b ≤ 16) (ht : 0 ≤ t) (hq : 0 ≤ q ∧ q ≤ 16) (hr : 0 ≤ r ∧ r ≤ 16) (hs : 0 ≤ s ∧ s ≤ 16) (h1 : r ≤ q) (h2 : r ≤ t) (h : code a b m 16 < code p q r s) : code a b 16 16 < code p q r s := by
  unfold code at h ⊢
  by_cases h3 : (((a * 17 + b) * 17 + 16) * 17 + 16) < (((p * 17 + q) * 17 + r) * 17 + s)
  · exact h3
  · replace h3 := Int.not_lt.mp h3
    have k1 := lt17 _ _ _ hs.2 h
    have k2 := le17 _ _ _ hs.1 h3
    obtain ⟨e1, e2⟩ := cmp17 _ _ _ _ hr (by rcases hm with h | h <;> rw [h]; exact hb.1; exact ht) k1 k2
    obtain ⟨_, e3⟩ := eq17 _ _ _ _ hb hq e1
    rcases hm with h | h <;> omega
theorem up1 {a m p q r s t : Int} (hm : m = a ∨ m = t) (ha : 0 ≤ a) (ht : 0 ≤ t) (hq : 0 ≤ q ∧ q ≤ 16) (hr : 0 ≤ r ∧ r ≤ 16) (hs : 0 ≤ s ∧ s ≤ 16) (h1 : q ≤ p) (h2 : q ≤ t) (h : code a m 16 16 < code p q r s) : code a 16 16 16 < code p q r s := by
  unfold code at h ⊢
  by_cases h3 : (((a * 17 + 16) * 17 + 16) * 17 + 16) < (((p * 17 + q) * 17 + r) * 17 + s)
  · exact h3
  · replace h3 := Int.not_lt.mp h3
    have k1 := lt17 _ _ _ hr.2 (lt17 _ _ _ hs.2 h)
    have k2 := le17 _ _ _ hr.1 (le17 _ _ _ hs.1 h3)
    obtain ⟨e1, e2⟩ := cmp17 _ _ _ _ hq (by rcases hm with h | h <;> rw [h]; exact ha; exact ht) k1 k2
    rcases hm with h | h <;> omega
theorem top0 {t p q r s : Int} (hp : p ≤ t) (hq : q ≤ 16) (hr : r ≤ 16) (hs : s ≤ 16) (h : code t 16 16 16 < code p q r s) : False := by unfold code at h; omega
section
variable (t0 t1 t2 t3 : Int) (ht : so t0 t1 t2 t3) (h16 : t0 ≤ 16) (ht0 : 0 ≤ t3) (hsum : t0 + t1 + t2 + t3 ≤ 16)
include ht h16 ht0 hsum
theorem l3_fill (a b c : Int) (hc0 : 0 ≤ c) (hcb : c ≤ b) (hba : b ≤ a) (ha : a ≤ t0) (hb : b ≤ t1) (hc : c ≤ t2)
    (next : ∀ x, Tab t0 t1 t2 t3 (code a b (c - 1) 16) x → ∃ r, Ev (fun k => spec_voTable.l2 k [t0, t1, t2, t3] x a b (c - 1)) r ∧ Tab t0 t1 t2 t3 (-1) r) :
    ∀ (n : Nat) (d : Int) (x : List Int), d + 1 = n → d ≤ c → d ≤ t3 → Tab t0 t1 t2 t3 (code a b c d) x → ∃ r, Ev (fun k => spec_voTable.l3 k [t0, t1, t2, t3] x a b c d) r ∧ Tab t0 t1 t2 t3 (-1) r
  | 0, d, x, hn, hdc, hd, hx => by
    obtain rfl : d = -1 := by omega
    obtain ⟨r, ⟨K, hK⟩, hp⟩ := next x (by rw [codeE3 a b c]; exact hx)
    refine ⟨r, ⟨K + 1, fun k hk => ?_⟩, hp⟩
    obtain ⟨k, rfl⟩ : ∃ j, k = j + 1 := ⟨k - 1, by omega⟩
    show spec_voTable.l3 (k + 1) [t0, t1, t2, t3] x a b c (-1) = some r
    rw [spec_voTable.l3, if_neg (by omega), mw1 c (by unfold so at ht; omega) (by unfold so at ht; omega)]
    exact hK k (by omega)
  | n + 1, d, x, hn, hdc, hd, hx => by
    have hs : so a b c d := by unfold so; omega
    have ht' := ht
    unfold so at ht'
    have hcd : ∀ j : Nat, spec_voCode.f (j + 6) [a, b, c, d] = some (code a b c d) := fun j => voCode_eq a b c d (by omega) (by omega) (by omega) (by omega) _ (by omega)
    by_cases e : a = t0 ∧ b = t1 ∧ c = t2 ∧ d = t3
    · have hT := Tab.put (v := 1) ⟨h16, by omega, by omega, by omega⟩ hs (by omega) ha hb hc hd hx (by rw [show (t0 + t1 + t2 + t3 - (a + b + c + d)).toNat = 0 by omega]; unfold A; rw [I_pos e]; rfl)
      obtain ⟨r, ⟨K, hK⟩, hp⟩ := l3_fill a b c hc0 hcb hba ha hb hc next n (d - 1) _ (by omega) (by omega) (by omega) hT
      refine ⟨r, ⟨K + 40, fun k hk => ?_⟩, hp⟩
      obtain ⟨k, rfl⟩ : ∃ j, k = (j + 6) + 1 := ⟨k - 7, by omega⟩
      show spec_voTable.l3 (k + 6 + 1) [t0, t1, t2, t3] x a b c d = some r
      rw [spec_voTable.l3, if_pos (by omega), Option.bind_some, voSame_eq _ _ _ _ _ _ _ _ _ (by omega), Option.bind_some, decide_eq_true e, if_pos rfl, hcd k, Option.bind_some, if_pos (by unfold code; omega), if_pos (by rw [hx.1]; unfold code; omega), mw1 d (by omega) (by omega)]
      exact hK _ (by omega)
    · have hT := Tab.put (v := (A (t0 + t1 + t2 + t3 - (a + b + c + d)).toNat a b c d t0 t1 t2 t3 : Int)) ⟨h16, by omega, by omega, by omega⟩ hs (by omega) ha hb hc hd hx rfl
      obtain ⟨r, ⟨K, hK⟩, hp⟩ := l3_fill a b c hc0 hcb hba ha hb hc next n (d - 1) _ (by omega) (by omega) (by omega) hT
      refine ⟨r, ⟨K + 40, fun k hk => ?_⟩, hp⟩
      obtain ⟨k, rfl⟩ : ∃ j, k = (j + 30) + 1 := ⟨k - 31, by omega⟩
      show spec_voTable.l3 (k + 30 + 1) [t0, t1, t2, t3] x a b c d = some r
      rw [spec_voTable.l3, if_pos (by omega), Option.bind_some, voSame_eq _ _ _ _ _ _ _ _ _ (by omega), Option.bind_some, decide_eq_false e, if_neg (by decide), l4_, l4_eq t0 t1 t2 t3 ht h16 ht0 hsum x a b c d hx hs (by omega) ha hb hc hd e k]
      exact hK _ (by omega)
theorem l2_fill (a b : Int) (hb0 : 0 ≤ b) (hba : b ≤ a) (ha : a ≤ t0) (hb : b ≤ t1)
    (next : ∀ x, Tab t0 t1 t2 t3 (code a (b - 1) 16 16) x → ∃ r, Ev (fun k => spec_voTable.l1 k [t0, t1, t2, t3] x a (b - 1)) r ∧ Tab t0 t1 t2 t3 (-1) r) :
    ∀ (n : Nat) (c : Int) (x : List Int), c + 1 = n → c ≤ b → c ≤ t2 → Tab t0 t1 t2 t3 (code a b c 16) x → ∃ r, Ev (fun k => spec_voTable.l2 k [t0, t1, t2, t3] x a b c) r ∧ Tab t0 t1 t2 t3 (-1) r
  | 0, c, x, hn, hcb, hc, hx => by
    have ht' := ht
    unfold so at ht'
    obtain rfl : c = -1 := by omega
    obtain ⟨r, ⟨K, hK⟩, hp⟩ := next x (by rw [codeE2 a b]; exact hx)
    refine ⟨r, ⟨K + 1, fun k hk => ?_⟩, hp⟩
    obtain ⟨k, rfl⟩ : ∃ j, k = j + 1 := ⟨k - 1, by omega⟩
    show spec_voTable.l2 (k + 1) [t0, t1, t2, t3] x a b (-1) = some r
    rw [spec_voTable.l2, if_neg (by omega), mw1 b (by omega) (by omega)]
    exact hK k (by omega)
  | n + 1, c, x, hn, hcb, hc, hx => by
    have ht' := ht
    unfold so at ht'
    have bd : ∀ {p q r s : Int}, so p q r s → 0 ≤ s → p ≤ t0 → (0 ≤ p ∧ p ≤ 16) ∧ (0 ≤ q ∧ q ≤ 16) ∧ (0 ≤ r ∧ r ≤ 16) ∧ (0 ≤ s ∧ s ≤ 16) := fun h1 h2 h3 => by unfold so at h1; omega
    obtain ⟨m, em, m1, m2, m3⟩ := least_eq c t3
    obtain ⟨N, hN⟩ : ∃ N : Nat, m + 1 = N := ⟨(m + 1).toNat, by omega⟩
    obtain ⟨r, ⟨K, hK⟩, hp⟩ := l3_fill t0 t1 t2 t3 ht h16 ht0 hsum a b c (by omega) hcb hba ha hb hc (fun x' hx' => l2_fill a b hb0 hba ha hb next n (c - 1) x' (by omega) (by omega) (by omega) hx') N m x hN m1 m2 ⟨hx.1, fun p q r s h1 h2 h3 h4 h5 h6 h7 => hx.2 p q r s h1 h2 h3 h4 h5 h6 (up3 m3 ⟨by omega, by omega⟩ ht0 (bd h1 h2 h3).2.2.1 (bd h1 h2 h3).2.2.2 h1.2.2 h6 h7)⟩
    refine ⟨r, ⟨K + 1, fun k hk => ?_⟩, hp⟩
    obtain ⟨k, rfl⟩ : ∃ j, k = j + 1 := ⟨k - 1, by omega⟩
    show spec_voTable.l2 (k + 1) [t0, t1, t2, t3] x a b c = some r
    rw [spec_voTable.l2, if_pos (by omega), if_pos (by rw [l4_]; omega), r3_, em, Option.bind_some]
    exact hK k (by omega)
theorem l1_fill (a : Int) (ha0 : 0 ≤ a) (ha : a ≤ t0)
    (next : ∀ x, Tab t0 t1 t2 t3 (code (a - 1) 16 16 16) x → ∃ r, Ev (fun k => spec_voTable.l0 k [t0, t1, t2, t3] x (a - 1)) r ∧ Tab t0 t1 t2 t3 (-1) r) :
    ∀ (n : Nat) (b : Int) (x : List Int), b + 1 = n → b ≤ a → b ≤ t1 → Tab t0 t1 t2 t3 (code a b 16 16) x → ∃ r, Ev (fun k => spec_voTable.l1 k [t0, t1, t2, t3] x a b) r ∧ Tab t0 t1 t2 t3 (-1) r
  | 0, b, x, hn, hba, hb, hx => by
    have ht' := ht
    unfold so at ht'
    obtain rfl : b = -1 := by omega
    obtain ⟨r, ⟨K, hK⟩, hp⟩ := next x (by rw [codeE1 a]; exact hx)
    refine ⟨r, ⟨K + 1, fun k hk => ?_⟩, hp⟩
    obtain ⟨k, rfl⟩ : ∃ j, k = j + 1 := ⟨k - 1, by omega⟩
    show spec_voTable.l1 (k + 1) [t0, t1, t2, t3] x a (-1) = some r
    rw [spec_voTable.l1, if_neg (by omega), mw1 a (by omega) (by omega)]
    exact hK k (by omega)
  | n + 1, b, x, hn, hba, hb, hx => by
    have ht' := ht
    unfold so at ht'
    have bd : ∀ {p q r s : Int}, so p q r s → 0 ≤ s → p ≤ t0 → (0 ≤ p ∧ p ≤ 16) ∧ (0 ≤ q ∧ q ≤ 16) ∧ (0 ≤ r ∧ r ≤ 16) ∧ (0 ≤ s ∧ s ≤ 16) := fun h1 h2 h3 => by unfold so at h1; omega
    obtain ⟨m, em, m1, m2, m3⟩ := least_eq b t2
    obtain ⟨N, hN⟩ : ∃ N : Nat, m + 1 = N := ⟨(m + 1).toNat, by omega⟩
    obtain ⟨r, ⟨K, hK⟩, hp⟩ := l2_fill t0 t1 t2 t3 ht h16 ht0 hsum a b (by omega) hba ha hb (fun x' hx' => l1_fill a ha0 ha next n (b - 1) x' (by omega) (by omega) (by omega) hx') N m x hN m1 m2 ⟨hx.1, fun p q r s h1 h2 h3 h4 h5 h6 h7 => hx.2 p q r s h1 h2 h3 h4 h5 h6 (up2 m3 ⟨by omega, by omega⟩ (by omega) (bd h1 h2 h3).2.1 (bd h1 h2 h3).2.2.1 (bd h1 h2 h3).2.2.2 h1.2.1 h5 h7)⟩
    refine ⟨r, ⟨K + 1, fun k hk => ?_⟩, hp⟩
    obtain ⟨k, rfl⟩ : ∃ j, k = j + 1 := ⟨k - 1, by omega⟩
    show spec_voTable.l1 (k + 1) [t0, t1, t2, t3] x a b = some r
    rw [spec_voTable.l1, if_pos (by omega), if_pos (by rw [l4_]; omega), r2_, em, Option.bind_some]
    exact hK k (by omega)
theorem l0_fill : ∀ (n : Nat) (a : Int) (x : List Int), a + 1 = n → a ≤ t0 → Tab t0 t1 t2 t3 (code a 16 16 16) x → ∃ r, Ev (fun k => spec_voTable.l0 k [t0, t1, t2, t3] x a) r ∧ Tab t0 t1 t2 t3 (-1) r
  | 0, a, x, hn, ha, hx => by
    obtain rfl : a = -1 := by omega
    refine ⟨x, ⟨1, fun k hk => ?_⟩, (by rw [codeE0] at hx; exact hx)⟩
    obtain ⟨k, rfl⟩ : ∃ j, k = j + 1 := ⟨k - 1, by omega⟩
    show spec_voTable.l0 (k + 1) [t0, t1, t2, t3] x (-1) = some x
    rw [spec_voTable.l0, if_neg (by omega)]
  | n + 1, a, x, hn, ha, hx => by
    have ht' := ht
    unfold so at ht'
    have bd : ∀ {p q r s : Int}, so p q r s → 0 ≤ s → p ≤ t0 → (0 ≤ p ∧ p ≤ 16) ∧ (0 ≤ q ∧ q ≤ 16) ∧ (0 ≤ r ∧ r ≤ 16) ∧ (0 ≤ s ∧ s ≤ 16) := fun h1 h2 h3 => by unfold so at h1; omega
    obtain ⟨m, em, m1, m2, m3⟩ := least_eq a t1
    obtain ⟨N, hN⟩ : ∃ N : Nat, m + 1 = N := ⟨(m + 1).toNat, by omega⟩
    obtain ⟨r, ⟨K, hK⟩, hp⟩ := l1_fill t0 t1 t2 t3 ht h16 ht0 hsum a (by omega) ha (fun x' hx' => l0_fill n (a - 1) x' (by omega) (by omega) hx') N m x hN m1 m2 ⟨hx.1, fun p q r s h1 h2 h3 h4 h5 h6 h7 => hx.2 p q r s h1 h2 h3 h4 h5 h6 (up1 m3 (by omega) (by omega) (bd h1 h2 h3).2.1 (bd h1 h2 h3).2.2.1 (bd h1 h2 h3).2.2.2 h1.1 h4 h7)⟩
    refine ⟨r, ⟨K + 1, fun k hk => ?_⟩, hp⟩
    obtain ⟨k, rfl⟩ : ∃ j, k = j + 1 := ⟨k - 1, by omega⟩
    show spec_voTable.l0 (k + 1) [t0, t1, t2, t3] x a = some r
    rw [spec_voTable.l0, if_pos (by omega), if_pos (by rw [l4_]; omega), r1_, em, Option.bind_some]
    exact hK k (by omega)
theorem voTable_ev : ∃ r, Ev (fun k => spec_voTable.f k [t0, t1, t2, t3]) r ∧ Tab t0 t1 t2 t3 (-1) r := by
  have ht' := ht
  unfold so at ht'
  obtain ⟨N, hN⟩ : ∃ N : Nat, t0 + 1 = N := ⟨(t0 + 1).toNat, by omega⟩
  obtain ⟨x, hx⟩ : ∃ x : List Int, x = List.replicate (83521 : Int).toNat 0 := ⟨_, rfl⟩
  have hl : x.length = 83521 := by rw [hx, List.length_replicate]; rfl
  obtain ⟨r, ⟨K, hK⟩, hp⟩ := l0_fill t0 t1 t2 t3 ht h16 ht0 hsum N t0 x hN (by omega) ⟨hl, fun p q r s h1 h2 h3 h4 h5 h6 h7 => (top0 h3 (by omega) (by omega) (by omega) h7).elim⟩
  refine ⟨r, ⟨K, fun k hk => ?_⟩, hp⟩
  show spec_voTable.f k [t0, t1, t2, t3] = some r
  unfold spec_voTable.f
  rw [if_pos (by decide), if_pos (by decide), if_pos (by rw [l4_]; decide), r0_, ← hx]
  exact hK k hk
end

/-! ### a step of the program -/
theorem sone_eq (of : Int → Int → Int → Int → Option Int) (x y b0 b1 b2 b3 : Int) (n : Nat) (hz : y < x → n = 0) (hof : x ≤ y → so b0 b1 b2 b3 → of b0 b1 b2 b3 = some (n : Int)) :
    impl_step.one of x y b0 b1 b2 b3 = some (b0, b1, b2, b3, ((I (so b0 b1 b2 b3) n : Nat) : Int)) := by
  unfold impl_step.one
  by_cases h : x > y
  · rw [if_pos h, hz (by omega), I_zero]; rfl
  · rw [if_neg h, ordered_eq, Option.bind_some]
    by_cases hs : so b0 b1 b2 b3
    · rw [decide_eq_true (show b0 ≥ b1 ∧ b1 ≥ b2 ∧ b2 ≥ b3 from hs), if_pos rfl, hof (by omega) hs, Option.bind_some, I_pos hs]
    · rw [decide_eq_false (show ¬ (b0 ≥ b1 ∧ b1 ≥ b2 ∧ b2 ≥ b3) from hs), if_neg (by decide), I_neg hs]; rfl
section
variable (t0 t1 t2 t3 : Int) (ht : so t0 t1 t2 t3) (h16 : t0 ≤ 16) (ht0 : 0 ≤ t3) (hsum : t0 + t1 + t2 + t3 ≤ 16) (m : Nat) (a b c d : Int) (hs : so a b c d) (h0 : 0 ≤ d) (ha : a ≤ t0) (hb : b ≤ t1) (hc : c ≤ t2) (hd : d ≤ t3) (hm : t0 + t1 + t2 + t3 - (a + b + c + d) = m + 1)
include ht h16 ht0 hsum hs h0 ha hb hc hd hm
theorem step0 : impl_step.f 18 t0 t1 t2 t3 a b c d 0 = some (a + 1, b, c, d, ((I (so (a + 1) b c d) (A m (a + 1) b c d t0 t1 t2 t3) : Nat) : Int)) := by
  have _u0 := ht0
  unfold impl_step.f
  unfold so at hs ht
  rw [if_pos rfl, w64 (x := a + 1) (by omega) (by omega)]
  exact sone_eq _ _ _ _ _ _ _ _ (fun h => A_zero _ _ _ _ _ _ _ _ _ (by omega)) (fun h hs' => g_eq t0 t1 t2 t3 h16 ht m (by omega) _ _ _ _ 18 (by omega) hs' h0 h hb hc hd (by omega))
theorem step1 : impl_step.f 18 t0 t1 t2 t3 a b c d 1 = some (a, b + 1, c, d, ((I (so a (b + 1) c d) (A m a (b + 1) c d t0 t1 t2 t3) : Nat) : Int)) := by
  have _u0 := ht0
  unfold impl_step.f
  unfold so at hs ht
  rw [if_neg (by decide), if_pos rfl, w64 (x := b + 1) (by omega) (by omega)]
  exact sone_eq _ _ _ _ _ _ _ _ (fun h => A_zero _ _ _ _ _ _ _ _ _ (by omega)) (fun h hs' => g_eq t0 t1 t2 t3 h16 ht m (by omega) _ _ _ _ 18 (by omega) hs' h0 ha h hc hd (by omega))
theorem step2 : impl_step.f 18 t0 t1 t2 t3 a b c d 2 = some (a, b, c + 1, d, ((I (so a b (c + 1) d) (A m a b (c + 1) d t0 t1 t2 t3) : Nat) : Int)) := by
  have _u0 := ht0
  unfold impl_step.f
  unfold so at hs ht
  rw [if_neg (by decide), if_neg (by decide), if_pos rfl, w64 (x := c + 1) (by omega) (by omega)]
  exact sone_eq _ _ _ _ _ _ _ _ (fun h => A_zero _ _ _ _ _ _ _ _ _ (by omega)) (fun h hs' => g_eq t0 t1 t2 t3 h16 ht m (by omega) _ _ _ _ 18 (by omega) hs' h0 ha hb h hd (by omega))
theorem step3 : impl_step.f 18 t0 t1 t2 t3 a b c d 3 = some (a, b, c, d + 1, ((I (so a b c (d + 1)) (A m a b c (d + 1) t0 t1 t2 t3) : Nat) : Int)) := by
  have _u0 := ht0
  unfold impl_step.f
  unfold so at hs ht
  rw [if_neg (by decide), if_neg (by decide), if_neg (by decide), if_pos rfl, w64 (x := d + 1) (by omega) (by omega)]
  exact sone_eq _ _ _ _ _ _ _ _ (fun h => A_zero _ _ _ _ _ _ _ _ _ (by omega)) (fun h hs' => g_eq t0 t1 t2 t3 h16 ht m (by omega) _ _ _ _ 18 (by omega) hs' (by omega) ha hb hc h (by omega))
end

theorem cn_succ (s : ByteArray) (c : Int) (i : Nat) : cn s c (i + 1) = cn s c i + (if bt s (i : Int) - 97 = c then 1 else 0) := rfl
theorem cn_mono (s : ByteArray) (c : Int) (i : Nat) : ∀ d : Nat, cn s c i ≤ cn s c (i + d)
  | 0 => Int.le_refl _
  | d + 1 => by
    have := cn_mono s c i d
    rw [← Nat.add_assoc, cn_succ]
    split <;> omega
theorem cn_sum (s : ByteArray) (hv : okV s) : ∀ i : Nat, i ≤ s.size → cn s 0 i + cn s 1 i + cn s 2 i + cn s 3 i = i
  | 0, _ => rfl
  | i + 1, h => by
    have h1 := cn_sum s hv i (by omega)
    have h2 := hv i (by omega)
    rw [cn_succ, cn_succ, cn_succ, cn_succ]
    obtain h3 | h3 | h3 | h3 : bt s (i : Int) = 97 ∨ bt s (i : Int) = 98 ∨ bt s (i : Int) = 99 ∨ bt s (i : Int) = 100 := by omega
    all_goals rw [h3]; simp; omega
theorem fo_all (s : ByteArray) : ∀ d i : Nat, fo s d i < 0 → ∀ m, i < m → m ≤ i + d → ordv s m = true
  | 0, i, _, m, h1, h2 => by omega
  | d + 1, i, h, m, h1, h2 => by
    rw [fo_succ] at h
    by_cases e : ordv s (i + 1) = true
    · rw [if_pos e] at h
      by_cases e2 : m = i + 1
      · rw [e2]; exact e
      · exact fo_all s d (i + 1) h m (by omega) (by omega)
    · rw [if_neg e] at h; omega
section
variable (t0 t1 t2 t3 : Int) (ht : so t0 t1 t2 t3) (h16 : t0 ≤ 16) (ht0 : 0 ≤ t3) (hsum : t0 + t1 + t2 + t3 ≤ 16) (tab : List Int) (htab : Tab t0 t1 t2 t3 (-1) tab)
variable (m : Nat) (a b c d : Int) (hs : so a b c d) (h0 : 0 ≤ d) (ha : a ≤ t0) (hb : b ≤ t1) (hc : c ≤ t2) (hd : d ≤ t3) (hm : t0 + t1 + t2 + t3 - (a + b + c + d) = m + 1)
include ht h16 ht0 hsum hs h0 ha hb hc hd hm
theorem I_le (p : Prop) [Decidable p] (x y z w : Int) : ((I p (A m x y z w t0 t1 t2 t3) : Nat) : Int) ≤ 4294967296 := by
  have _u0 := ht; have _u1 := h16; have _u2 := ht0; have _u3 := ha; have _u4 := hb; have _u5 := hc; have _u6 := hd
  have h1 := A_le t0 t1 t2 t3 m x y z w
  have h2 : 4 ^ m ≤ 4 ^ 16 := Nat.pow_le_pow_right (by decide) (by unfold so at hs; omega)
  unfold I
  split <;> omega
theorem ri (k : Nat) (v : ByteArray) (rk i y j a' b' c' d' q : Int) (hj : j < y - 97) (hj9 : 0 ≤ j ∧ j < 9) (hst : impl_step.f 18 t0 t1 t2 t3 a b c d j = some (a', b', c', d', q)) (hq : 0 ≤ q ∧ q ≤ 4294967296) (hr : 0 ≤ rk ∧ rk ≤ 4611686018427387904) :
    impl_RankOrdered.l1 (k + 1) v t0 t1 t2 t3 a b c d rk i y j = impl_RankOrdered.l1 k v t0 t1 t2 t3 a b c d (rk + q) i y (j + 1) := by
  have _u0 := ht; have _u1 := h16; have _u2 := ht0; have _u3 := ha; have _u4 := hb; have _u5 := hc; have _u6 := hd; have _u7 := hm; have _u8 := hs; have _u9 := h0; have _u10 := hsum
  rw [impl_RankOrdered.l1, if_pos hj, hst, Option.bind_some]
  dsimp only
  rw [w64 (x := rk + q) (by omega) (by omega), w64 (x := j + 1) (by omega) (by omega)]
include htab
theorem look_ (p q r s : Int) (hp : so p q r s) (hs0 : 0 ≤ s) (h1 : p ≤ t0) (h2 : q ≤ t1) (h3 : r ≤ t2) (h4 : s ≤ t3) (h5 : p + q + r + s = a + b + c + d + 1) (j : Nat) : spec_voCode.f (j + 6) [p, q, r, s] = some (code p q r s) ∧ 0 ≤ code p q r s ∧ code p q r s < (tab.length : Int) ∧ rd tab (code p q r s) = (A m p q r s t0 t1 t2 t3 : Int) := by
  have _u0 := ht; have _u1 := hs; have _u2 := h0
  have hp' := hp
  unfold so at hp'
  refine ⟨voCode_eq p q r s (by omega) (by omega) (by omega) (by omega) _ (by omega), by unfold code; omega, by rw [htab.1]; unfold code; omega, ?_⟩
  rw [htab.2 p q r s hp hs0 h1 h2 h3 h4 (by unfold code; omega), show (t0 + t1 + t2 + t3 - (p + q + r + s)).toNat = m by omega]
theorem rs0 (k : Nat) (v : ByteArray) (rk i L : Int) (hL : 0 < L) (hr : 0 ≤ rk ∧ rk ≤ 4611686018427387904) :
    spec_RankOrdered.l1 (k + 9) v [t0, t1, t2, t3] [a, b, c, d] tab rk i L 0 = spec_RankOrdered.l1 (k + 7) v [t0, t1, t2, t3] [a, b, c, d] tab (rk + ((I (so (a + 1) b c d) (A m (a + 1) b c d t0 t1 t2 t3) : Nat) : Int)) i L 1 := by
  have hs' := hs
  unfold so at hs'
  have hle := I_le t0 t1 t2 t3 ht h16 ht0 hsum m a b c d hs h0 ha hb hc hd hm (so (a + 1) b c d) (a + 1) b c d
  rw [spec_RankOrdered.l1, if_pos hL, if_pos (by decide), if_pos (by rw [l4_]; decide), if_pos (by rw [l4_]; decide)]
  by_cases h : a < t0
  · have hso : so (a + 1) b c d := by unfold so; omega
    obtain ⟨k1, k2, k3, k4⟩ := look_ t0 t1 t2 t3 ht h16 ht0 hsum tab htab m a b c d hs h0 ha hb hc hd hm (a + 1) b c d hso h0 (by omega) hb hc hd (by omega) (k + 1)
    rw [I_pos hso] at hle ⊢
    rw [if_pos (show rd [a, b, c, d] 0 < rd [t0, t1, t2, t3] 0 from h), if_pos rfl, spec_RankOrdered.j3, if_pos rfl, own_eq _ (by simp), Option.bind_some, if_pos (by decide), l4_, if_pos (by decide), s0_, r0_, mw2 a (by omega) (by omega), k1, Option.bind_some, if_pos k2, if_pos k3, k4, w64 (x := rk + _) (by omega) (by omega), v1_]
  · rw [if_neg (show ¬ rd [a, b, c, d] 0 < rd [t0, t1, t2, t3] 0 from h), spec_RankOrdered.j3, if_neg (by decide), A_zero _ _ _ _ m _ _ _ _ (by omega), I_zero, v1_]; simp
theorem rs1 (k : Nat) (v : ByteArray) (rk i L : Int) (hL : 1 < L) (hr : 0 ≤ rk ∧ rk ≤ 4611686018427387904) :
    spec_RankOrdered.l1 (k + 9) v [t0, t1, t2, t3] [a, b, c, d] tab rk i L 1 = spec_RankOrdered.l1 (k + 7) v [t0, t1, t2, t3] [a, b, c, d] tab (rk + ((I (so a (b + 1) c d) (A m a (b + 1) c d t0 t1 t2 t3) : Nat) : Int)) i L 2 := by
  have hs' := hs
  unfold so at hs'
  have hle := I_le t0 t1 t2 t3 ht h16 ht0 hsum m a b c d hs h0 ha hb hc hd hm (so a (b + 1) c d) a (b + 1) c d
  have e0 : wrap64 (1 - 1) = 0 := by rw [w64 (by omega) (by omega)]; rfl
  rw [spec_RankOrdered.l1, if_pos hL, if_pos (by decide), if_pos (by rw [l4_]; decide), if_pos (by rw [l4_]; decide)]
  by_cases h : b < t1
  · rw [if_pos (show rd [a, b, c, d] 1 < rd [t0, t1, t2, t3] 1 from h), if_neg (by decide), e0, if_pos (by decide), if_pos (by rw [l4_]; decide)]
    by_cases h3 : a > b
    · have hso : so a (b + 1) c d := by unfold so; omega
      obtain ⟨k1, k2, k3, k4⟩ := look_ t0 t1 t2 t3 ht h16 ht0 hsum tab htab m a b c d hs h0 ha hb hc hd hm a (b + 1) c d hso h0 (by omega) (by omega) hc hd (by omega) (k + 1)
      rw [I_pos hso] at hle ⊢
      rw [decide_eq_true (show rd [a, b, c, d] 0 > rd [a, b, c, d] 1 from h3), spec_RankOrdered.j3, if_pos rfl, own_eq _ (by simp), Option.bind_some, if_pos (by decide), l4_, if_pos (by decide), s1_, r1_, mw2 b (by omega) (by omega), k1, Option.bind_some, if_pos k2, if_pos k3, k4, w64 (x := rk + _) (by omega) (by omega), v2_]
    · rw [decide_eq_false (show ¬ rd [a, b, c, d] 0 > rd [a, b, c, d] 1 from h3), spec_RankOrdered.j3, if_neg (by decide), I_neg (by unfold so; omega), v2_]; simp
  · rw [if_neg (show ¬ rd [a, b, c, d] 1 < rd [t0, t1, t2, t3] 1 from h), spec_RankOrdered.j3, if_neg (by decide), A_zero _ _ _ _ m _ _ _ _ (by omega), I_zero, v2_]; simp
theorem rs2 (k : Nat) (v : ByteArray) (rk i L : Int) (hL : 2 < L) (hr : 0 ≤ rk ∧ rk ≤ 4611686018427387904) :
    spec_RankOrdered.l1 (k + 9) v [t0, t1, t2, t3] [a, b, c, d] tab rk i L 2 = spec_RankOrdered.l1 (k + 7) v [t0, t1, t2, t3] [a, b, c, d] tab (rk + ((I (so a b (c + 1) d) (A m a b (c + 1) d t0 t1 t2 t3) : Nat) : Int)) i L 3 := by
  have hs' := hs
  unfold so at hs'
  have hle := I_le t0 t1 t2 t3 ht h16 ht0 hsum m a b c d hs h0 ha hb hc hd hm (so a b (c + 1) d) a b (c + 1) d
  have e0 : wrap64 (2 - 1) = 1 := by rw [w64 (by omega) (by omega)]; rfl
  rw [spec_RankOrdered.l1, if_pos hL, if_pos (by decide), if_pos (by rw [l4_]; decide), if_pos (by rw [l4_]; decide)]
  by_cases h : c < t2
  · rw [if_pos (show rd [a, b, c, d] 2 < rd [t0, t1, t2, t3] 2 from h), if_neg (by decide), e0, if_pos (by decide), if_pos (by rw [l4_]; decide)]
    by_cases h3 : b > c
    · have hso : so a b (c + 1) d := by unfold so; omega
      obtain ⟨k1, k2, k3, k4⟩ := look_ t0 t1 t2 t3 ht h16 ht0 hsum tab htab m a b c d hs h0 ha hb hc hd hm a b (c + 1) d hso h0 (by omega) (by omega) (by omega) hd (by omega) (k + 1)
      rw [I_pos hso] at hle ⊢
      rw [decide_eq_true (show rd [a, b, c, d] 1 > rd [a, b, c, d] 2 from h3), spec_RankOrdered.j3, if_pos rfl, own_eq _ (by simp), Option.bind_some, if_pos (by decide), l4_, if_pos (by decide), s2_, r2_, mw2 c (by omega) (by omega), k1, Option.bind_some, if_pos k2, if_pos k3, k4, w64 (x := rk + _) (by omega) (by omega), v3_]
    · rw [decide_eq_false (show ¬ rd [a, b, c, d] 1 > rd [a, b, c, d] 2 from h3), spec_RankOrdered.j3, if_neg (by decide), I_neg (by unfold so; omega), v3_]; simp
  · rw [if_neg (show ¬ rd [a, b, c, d] 2 < rd [t0, t1, t2, t3] 2 from h), spec_RankOrdered.j3, if_neg (by decide), A_zero _ _ _ _ m _ _ _ _ (by omega), I_zero, v3_]; simp
/-- What one vote does to both. -/
def Goes (v : ByteArray) (t0 t1 t2 t3 a b c d : Int) (tab : List Int) (rk i y : Int) (a' b' c' d' : Int) : Prop :=
  ∃ rk', rk ≤ rk' ∧ rk' ≤ rk + 12884901888 ∧ (∀ k, ∃ j, impl_RankOrdered.l1 (k + 5) v t0 t1 t2 t3 a b c d rk i y 0 = impl_RankOrdered.l0 (k + j) v t0 t1 t2 t3 a' b' c' d' rk' (wrap64 (i + 1))) ∧
    (∀ k, ∃ j, spec_RankOrdered.l1 (k + 20) v [t0, t1, t2, t3] [a, b, c, d] tab rk i (y - 97) 0 = spec_RankOrdered.l0 (k + j) v [t0, t1, t2, t3] [a', b', c', d'] tab rk' (wrap64 (i + 1)))
theorem goes97 (v : ByteArray) (rk i : Int) (w0 : wrap64 (a + 1) = a + 1) : Goes v t0 t1 t2 t3 a b c d tab rk i 97 (a + 1) b c d := by
  have _u0 := ht; have _u1 := h16; have _u2 := ht0; have _u3 := ha; have _u4 := hb; have _u5 := hc; have _u6 := hd; have _u7 := hm; have _u8 := hs; have _u9 := h0; have _u10 := hsum; have _u11 := htab
  refine ⟨rk, Int.le_refl _, by omega, fun k => ⟨4, ?_⟩, fun k => ⟨19, ?_⟩⟩
  · rw [impl_RankOrdered.l1, if_neg (by decide), if_pos rfl, w0]
  · rw [show (97 : Int) - 97 = 0 from rfl, spec_RankOrdered.l1, if_neg (by decide), if_pos (by decide), l4_, if_pos (by decide), r0_, s0_, w0]
theorem goes98 (v : ByteArray) (rk i : Int) (hr : 0 ≤ rk ∧ rk ≤ 1152921504606846976) (w1 : wrap64 (b + 1) = b + 1) : Goes v t0 t1 t2 t3 a b c d tab rk i 98 a (b + 1) c d := by
  have q0 := I_le t0 t1 t2 t3 ht h16 ht0 hsum m a b c d hs h0 ha hb hc hd hm (so (a + 1) b c d) (a + 1) b c d
  have i0 := step0 t0 t1 t2 t3 ht h16 ht0 hsum m a b c d hs h0 ha hb hc hd hm
  have S0 := rs0 t0 t1 t2 t3 ht h16 ht0 hsum tab htab m a b c d hs h0 ha hb hc hd hm
  have R := ri t0 t1 t2 t3 ht h16 ht0 hsum m a b c d hs h0 ha hb hc hd hm
  generalize I (so (a + 1) b c d) (A m (a + 1) b c d t0 t1 t2 t3) = n0 at *
  clear ht h16 ht0 hsum hs h0 ha hb hc hd hm htab
  have p0 : 0 ≤ rk ∧ rk ≤ 4611686018427387904 := by omega
  have z0 : (0 : Int) ≤ n0 ∧ (n0 : Int) ≤ 4294967296 := by omega
  refine ⟨rk + n0, by omega, by omega, fun k => ⟨3, ?_⟩, fun k => ⟨17, ?_⟩⟩
  · rw [R _ _ rk _ 98 0 _ _ _ _ _ (by decide) (by decide) i0 z0 p0, impl_RankOrdered.l1, if_neg (by decide), if_neg (by decide), if_pos rfl, w1]
  · rw [show (98 : Int) - 97 = 1 from rfl, S0 (k + 11) _ _ _ _ (by decide) p0, spec_RankOrdered.l1, if_neg (by decide), if_pos (by decide), l4_, if_pos (by decide), r1_, s1_, w1]
theorem goes99 (v : ByteArray) (rk i : Int) (hr : 0 ≤ rk ∧ rk ≤ 1152921504606846976) (w2 : wrap64 (c + 1) = c + 1) : Goes v t0 t1 t2 t3 a b c d tab rk i 99 a b (c + 1) d := by
  have q0 := I_le t0 t1 t2 t3 ht h16 ht0 hsum m a b c d hs h0 ha hb hc hd hm (so (a + 1) b c d) (a + 1) b c d
  have q1 := I_le t0 t1 t2 t3 ht h16 ht0 hsum m a b c d hs h0 ha hb hc hd hm (so a (b + 1) c d) a (b + 1) c d
  have i0 := step0 t0 t1 t2 t3 ht h16 ht0 hsum m a b c d hs h0 ha hb hc hd hm
  have i1 := step1 t0 t1 t2 t3 ht h16 ht0 hsum m a b c d hs h0 ha hb hc hd hm
  have S0 := rs0 t0 t1 t2 t3 ht h16 ht0 hsum tab htab m a b c d hs h0 ha hb hc hd hm
  have S1 := rs1 t0 t1 t2 t3 ht h16 ht0 hsum tab htab m a b c d hs h0 ha hb hc hd hm
  have R := ri t0 t1 t2 t3 ht h16 ht0 hsum m a b c d hs h0 ha hb hc hd hm
  generalize I (so (a + 1) b c d) (A m (a + 1) b c d t0 t1 t2 t3) = n0 at *
  generalize I (so a (b + 1) c d) (A m a (b + 1) c d t0 t1 t2 t3) = n1 at *
  clear ht h16 ht0 hsum hs h0 ha hb hc hd hm htab
  have p0 : 0 ≤ rk ∧ rk ≤ 4611686018427387904 := by omega
  have p1 : 0 ≤ rk + n0 ∧ rk + n0 ≤ 4611686018427387904 := by omega
  have z0 : (0 : Int) ≤ n0 ∧ (n0 : Int) ≤ 4294967296 := by omega
  have z1 : (0 : Int) ≤ n1 ∧ (n1 : Int) ≤ 4294967296 := by omega
  refine ⟨rk + n0 + n1, by omega, by omega, fun k => ⟨2, ?_⟩, fun k => ⟨15, ?_⟩⟩
  · rw [R _ _ rk _ 99 0 _ _ _ _ _ (by decide) (by decide) i0 z0 p0, show (0 : Int) + 1 = 1 from rfl, R _ _ (rk + n0) _ 99 1 _ _ _ _ _ (by decide) (by decide) i1 z1 p1, impl_RankOrdered.l1, if_neg (by decide), if_neg (by decide), if_neg (by decide), if_pos rfl, w2]
  · rw [show (99 : Int) - 97 = 2 from rfl, S0 (k + 11) _ _ _ _ (by decide) p0, S1 (k + 9) _ _ _ _ (by decide) p1, spec_RankOrdered.l1, if_neg (by decide), if_pos (by decide), l4_, if_pos (by decide), r2_, s2_, w2]
theorem goes100 (v : ByteArray) (rk i : Int) (hr : 0 ≤ rk ∧ rk ≤ 1152921504606846976) (w3 : wrap64 (d + 1) = d + 1) : Goes v t0 t1 t2 t3 a b c d tab rk i 100 a b c (d + 1) := by
  have q0 := I_le t0 t1 t2 t3 ht h16 ht0 hsum m a b c d hs h0 ha hb hc hd hm (so (a + 1) b c d) (a + 1) b c d
  have q1 := I_le t0 t1 t2 t3 ht h16 ht0 hsum m a b c d hs h0 ha hb hc hd hm (so a (b + 1) c d) a (b + 1) c d
  have q2 := I_le t0 t1 t2 t3 ht h16 ht0 hsum m a b c d hs h0 ha hb hc hd hm (so a b (c + 1) d) a b (c + 1) d
  have i0 := step0 t0 t1 t2 t3 ht h16 ht0 hsum m a b c d hs h0 ha hb hc hd hm
  have i1 := step1 t0 t1 t2 t3 ht h16 ht0 hsum m a b c d hs h0 ha hb hc hd hm
  have i2 := step2 t0 t1 t2 t3 ht h16 ht0 hsum m a b c d hs h0 ha hb hc hd hm
  have S0 := rs0 t0 t1 t2 t3 ht h16 ht0 hsum tab htab m a b c d hs h0 ha hb hc hd hm
  have S1 := rs1 t0 t1 t2 t3 ht h16 ht0 hsum tab htab m a b c d hs h0 ha hb hc hd hm
  have S2 := rs2 t0 t1 t2 t3 ht h16 ht0 hsum tab htab m a b c d hs h0 ha hb hc hd hm
  have R := ri t0 t1 t2 t3 ht h16 ht0 hsum m a b c d hs h0 ha hb hc hd hm
  generalize I (so (a + 1) b c d) (A m (a + 1) b c d t0 t1 t2 t3) = n0 at *
  generalize I (so a (b + 1) c d) (A m a (b + 1) c d t0 t1 t2 t3) = n1 at *
  generalize I (so a b (c + 1) d) (A m a b (c + 1) d t0 t1 t2 t3) = n2 at *
  clear ht h16 ht0 hsum hs h0 ha hb hc hd hm htab
  have p0 : 0 ≤ rk ∧ rk ≤ 4611686018427387904 := by omega
  have p1 : 0 ≤ rk + n0 ∧ rk + n0 ≤ 4611686018427387904 := by omega
  have p2 : 0 ≤ rk + n0 + n1 ∧ rk + n0 + n1 ≤ 4611686018427387904 := by omega
  have z0 : (0 : Int) ≤ n0 ∧ (n0 : Int) ≤ 4294967296 := by omega
  have z1 : (0 : Int) ≤ n1 ∧ (n1 : Int) ≤ 4294967296 := by omega
  have z2 : (0 : Int) ≤ n2 ∧ (n2 : Int) ≤ 4294967296 := by omega
  refine ⟨rk + n0 + n1 + n2, by omega, by omega, fun k => ⟨1, ?_⟩, fun k => ⟨13, ?_⟩⟩
  · rw [R _ _ rk _ 100 0 _ _ _ _ _ (by decide) (by decide) i0 z0 p0, show (0 : Int) + 1 = 1 from rfl, R _ _ (rk + n0) _ 100 1 _ _ _ _ _ (by decide) (by decide) i1 z1 p1, show (1 : Int) + 1 = 2 from rfl, R _ _ (rk + n0 + n1) _ 100 2 _ _ _ _ _ (by decide) (by decide) i2 z2 p2, impl_RankOrdered.l1, if_neg (by decide), if_neg (by decide), if_neg (by decide), if_neg (by decide), if_pos rfl, w3]
  · rw [show (100 : Int) - 97 = 3 from rfl, S0 (k + 11) _ _ _ _ (by decide) p0, S1 (k + 9) _ _ _ _ (by decide) p1, S2 (k + 7) _ _ _ _ (by decide) p2, spec_RankOrdered.l1, if_neg (by decide), if_pos (by decide), l4_, if_pos (by decide), r3_, s3_, w3]
end
def tc (s : ByteArray) (i : Nat) : List Int := [cn s 0 i, cn s 1 i, cn s 2 i, cn s 3 i]
theorem goes_cn (s : ByteArray) (hz : s.size ≤ 16) (hv : okV s) (ho : ∀ m, m ≤ s.size → so (cn s 0 m) (cn s 1 m) (cn s 2 m) (cn s 3 m)) (tab : List Int) (htab : Tab (cn s 0 s.size) (cn s 1 s.size) (cn s 2 s.size) (cn s 3 s.size) (-1) tab) (d i : Nat) (hi : i + (d + 1) = s.size) (rk : Int) (hr : 0 ≤ rk ∧ rk ≤ 1152921504606846976) :
    Goes s (cn s 0 s.size) (cn s 1 s.size) (cn s 2 s.size) (cn s 3 s.size) (cn s 0 i) (cn s 1 i) (cn s 2 i) (cn s 3 i) tab rk i (bt s i) (cn s 0 (i + 1)) (cn s 1 (i + 1)) (cn s 2 (i + 1)) (cn s 3 (i + 1)) := by
  have hb := hv i (by omega)
  have hS := cn_sum s hv s.size (Nat.le_refl _)
  have hs := cn_sum s hv i (by omega)
  have hso := ho i (by omega)
  have hT := ho s.size (Nat.le_refl _)
  have hm0 := cn_mono s 0 i (d + 1)
  have hm1 := cn_mono s 1 i (d + 1)
  have hm2 := cn_mono s 2 i (d + 1)
  have hm3 := cn_mono s 3 i (d + 1)
  rw [hi] at hm0 hm1 hm2 hm3
  have hb3 := (cn_bound s 3 i).1
  have hB := (cn_bound s 0 s.size).2
  have hB3 := (cn_bound s 3 s.size).1
  have w0 : wrap64 (cn s 0 i + 1) = cn s 0 i + 1 := wcn s 0 i (by omega)
  have w1 : wrap64 (cn s 1 i + 1) = cn s 1 i + 1 := wcn s 1 i (by omega)
  have w2 : wrap64 (cn s 2 i + 1) = cn s 2 i + 1 := wcn s 2 i (by omega)
  have w3 : wrap64 (cn s 3 i + 1) = cn s 3 i + 1 := wcn s 3 i (by omega)
  have hm : cn s 0 s.size + cn s 1 s.size + cn s 2 s.size + cn s 3 s.size - (cn s 0 i + cn s 1 i + cn s 2 i + cn s 3 i) = (d : Int) + 1 := by omega
  have h16 : cn s 0 s.size ≤ 16 := by omega
  have hsum : cn s 0 s.size + cn s 1 s.size + cn s 2 s.size + cn s 3 s.size ≤ 16 := by omega
  rw [cn_succ s 0 i, cn_succ s 1 i, cn_succ s 2 i, cn_succ s 3 i]
  obtain h3 | h3 | h3 | h3 : bt s (i : Int) = 97 ∨ bt s (i : Int) = 98 ∨ bt s (i : Int) = 99 ∨ bt s (i : Int) = 100 := by omega
  all_goals rw [h3]
  · rw [if_pos (by decide), if_neg (by decide), if_neg (by decide), if_neg (by decide), Int.add_zero, Int.add_zero, Int.add_zero]
    exact goes97 _ _ _ _ hT h16 hB3 hsum tab htab d _ _ _ _ hso hb3 hm0 hm1 hm2 hm3 hm s rk i w0
  · rw [if_neg (by decide), if_pos (by decide), if_neg (by decide), if_neg (by decide), Int.add_zero, Int.add_zero, Int.add_zero]
    exact goes98 _ _ _ _ hT h16 hB3 hsum tab htab d _ _ _ _ hso hb3 hm0 hm1 hm2 hm3 hm s rk i hr w1
  · rw [if_neg (by decide), if_neg (by decide), if_pos (by decide), if_neg (by decide), Int.add_zero, Int.add_zero, Int.add_zero]
    exact goes99 _ _ _ _ hT h16 hB3 hsum tab htab d _ _ _ _ hso hb3 hm0 hm1 hm2 hm3 hm s rk i hr w2
  · rw [if_neg (by decide), if_neg (by decide), if_neg (by decide), if_pos (by decide), Int.add_zero, Int.add_zero, Int.add_zero]
    exact goes100 _ _ _ _ hT h16 hB3 hsum tab htab d _ _ _ _ hso hb3 hm0 hm1 hm2 hm3 hm s rk i hr w3
theorem rank_l (s : ByteArray) (hz : s.size ≤ 16) (hv : okV s) (ho : ∀ m, m ≤ s.size → so (cn s 0 m) (cn s 1 m) (cn s 2 m) (cn s 3 m)) (tab : List Int) (htab : Tab (cn s 0 s.size) (cn s 1 s.size) (cn s 2 s.size) (cn s 3 s.size) (-1) tab) :
    ∀ (d i : Nat) (rk : Int), i + d = s.size → 0 ≤ rk → rk ≤ i * 12884901888 → ∃ R : Int, (∀ k, 6 * d < k → impl_RankOrdered.l0 k s (cn s 0 s.size) (cn s 1 s.size) (cn s 2 s.size) (cn s 3 s.size) (cn s 0 i) (cn s 1 i) (cn s 2 i) (cn s 3 i) rk (i : Int) = some (R, true)) ∧
      Ev (fun k => spec_RankOrdered.l0 k s (tc s s.size) (tc s i) tab rk (i : Int)) (R, true) := by
  intro d
  induction d with
  | zero =>
    intro i rk hi h0 h1
    refine ⟨rk, fun k hk => ?_, ⟨1, fun k hk => ?_⟩⟩
    · obtain ⟨k, rfl⟩ : ∃ j, k = j + 1 := ⟨k - 1, by omega⟩
      rw [impl_RankOrdered.l0, if_neg (by omega)]
    · obtain ⟨k, rfl⟩ : ∃ j, k = j + 1 := ⟨k - 1, by omega⟩
      show spec_RankOrdered.l0 (k + 1) _ _ _ _ _ _ = _
      rw [spec_RankOrdered.l0, if_neg (by omega)]
  | succ d IH =>
    intro i rk hi h0 h1
    have hb := hv i (by omega)
    obtain ⟨rk', g0, g1, hi', hsp⟩ := goes_cn s hz hv ho tab htab d i hi rk ⟨h0, by omega⟩
    have e1 : wrap64 ((i : Int) + 1) = ((i + 1 : Nat) : Int) := by rw [w64 (by omega) (by omega)]; omega
    rw [e1] at hi' hsp
    obtain ⟨R, h2, ⟨K, h3⟩⟩ := IH (i + 1) rk' (by omega) (by omega) (by omega)
    clear IH
    refine ⟨R, fun k hk => ?_, ⟨K + 40, fun k hk => ?_⟩⟩
    · obtain ⟨k, rfl⟩ : ∃ j, k = (j + 5) + 1 := ⟨k - 6, by omega⟩
      rw [impl_RankOrdered.l0, if_pos (by omega), if_pos (by omega)]
      obtain ⟨j, hj⟩ := hi' k
      rw [hj]
      exact h2 _ (by omega)
    · obtain ⟨k, rfl⟩ : ∃ j, k = (j + 20) + 1 := ⟨k - 21, by omega⟩
      show spec_RankOrdered.l0 (k + 20 + 1) _ _ _ _ _ _ = _
      rw [spec_RankOrdered.l0, if_pos (by omega), if_pos (by omega), show (bt s i - 97) % 256 = bt s i - 97 by omega]
      obtain ⟨j, hj⟩ := hsp k
      unfold tc
      rw [hj]
      exact h3 _ (by omega)
theorem both (s : ByteArray) (hs : s.size ≤ 140737488351232) : ∃ R : Int × Bool, Ev (fun k => spec_RankOrdered.f k s) R ∧ ∀ k, 100 < k → impl_RankOrdered.f k s = some R := by
  by_cases h : s.size ≤ 16 ∧ isV s = true
  · have hc : (decide (s.size ≤ 16) && isV s) = true := by simp [h]
    have hv : okV s := (isV_bt s).mp h.2
    by_cases ho : fo s s.size 0 < 0
    · have hall : ∀ m, m ≤ s.size → so (cn s 0 m) (cn s 1 m) (cn s 2 m) (cn s 3 m) := fun m hm => by
        by_cases e : m = 0
        · subst e; exact ⟨Int.le_refl _, Int.le_refl _, Int.le_refl _⟩
        · exact of_decide_eq_true (fo_all s s.size 0 ho m (by omega) (by omega))
      have hB := cn_bound s 0 s.size
      have hS := cn_sum s hv s.size (Nat.le_refl _)
      obtain ⟨tab, ⟨K1, hT⟩, htab⟩ := voTable_ev _ _ _ _ (hall s.size (Nat.le_refl _)) (by omega) (cn_bound s 3 s.size).1 (by omega)
      obtain ⟨R, h1, ⟨K2, h2⟩⟩ := rank_l s h.1 hv hall tab htab s.size 0 0 (by omega) (by omega) (by omega)
      refine ⟨(R, true), ⟨K1 + K2 + 1000, fun k hk => ?_⟩, fun k hk => ?_⟩
      · obtain ⟨k, rfl⟩ : ∃ j, k = j + 1 := ⟨k - 1, by omega⟩
        show spec_RankOrdered.f (k + 1) s = some (R, true)
        unfold spec_RankOrdered.f
        rw [voGood_eq s _ (by omega), hc, Option.bind_some, if_pos rfl, first_eq s h.1 hv _ (by omega), Option.bind_some, decide_eq_false (by omega), spec_RankOrdered.j0, if_neg (by decide), counts_eq s h.1 hv _ (by omega), Option.bind_some, if_pos (by decide)]
        have := hT k (by omega)
        dsimp only at this
        rw [this, Option.bind_some]
        exact h2 k (by omega)
      · unfold impl_RankOrdered.f
        rw [areOrd_eq s hs k (by omega), hc]
        unfold ordAll
        rw [decide_eq_true ho, Option.bind_some, Bool.and_self, if_pos rfl, tally_eq s h.1 hv k (by omega), Option.bind_some]
        exact h1 200 (by omega)
    · refine ⟨(0, false), ⟨1000, fun k hk => ?_⟩, fun k hk => ?_⟩
      · obtain ⟨k, rfl⟩ : ∃ j, k = j + 1 := ⟨k - 1, by omega⟩
        show spec_RankOrdered.f (k + 1) s = _
        unfold spec_RankOrdered.f
        rw [voGood_eq s _ (by omega), hc, Option.bind_some, if_pos rfl, first_eq s h.1 hv _ (by omega), Option.bind_some, decide_eq_true (by omega), spec_RankOrdered.j0, if_pos rfl]
      · unfold impl_RankOrdered.f
        rw [areOrd_eq s hs k (by omega), hc]
        unfold ordAll
        rw [decide_eq_false ho]; rfl
  · have hc : (decide (s.size ≤ 16) && isV s) = false := by
      cases hh : (decide (s.size ≤ 16) && isV s) with
      | false => rfl
      | true => exact absurd (by simpa using hh) h
    refine ⟨(0, false), ⟨1000, fun k hk => ?_⟩, fun k hk => ?_⟩
    · obtain ⟨k, rfl⟩ : ∃ m, k = m + 1 := ⟨k - 1, by omega⟩
      show spec_RankOrdered.f (k + 1) s = _
      unfold spec_RankOrdered.f; rw [voGood_eq s _ (by omega), hc]; simp [spec_RankOrdered.j0]
    · unfold impl_RankOrdered.f; rw [areOrd_eq s hs k (by omega), hc]; rfl
theorem FnExactRankOrdered : laws_FnExactRankOrdered.Pure := by
  intro s hs
  obtain ⟨R, ⟨K, hK⟩, hi⟩ := both s hs
  refine ⟨K + 101, ?_⟩
  unfold laws_FnExactRankOrdered.f
  by_cases hb : (s.size : Int) > 1048576
  · rw [if_pos hb]
  · have h1 := hK (K + 101) (by omega)
    dsimp only at h1
    rw [if_neg hb, h1, Option.bind_some, hi _ (by omega), Option.bind_some, if_pos rfl, bne_self_eq_false, if_neg (by decide)]

end Go.Proofs.YtgpebahbeccniaaDoor.PuqFnExactRankOrdered
namespace Go.Proofs.YtgpebahbeccniaaDoor.Pure
open Go.Proofs.YtgpebahbeccniaaDoor.QFnExactRankOrdered
theorem FnExactRankOrdered : laws_FnExactRankOrdered.Pure := Go.Proofs.YtgpebahbeccniaaDoor.PuqFnExactRankOrdered.FnExactRankOrdered
end Go.Proofs.YtgpebahbeccniaaDoor.Pure
