/- For every text: ColumnVotes of the program and of the reference answer alike. -/
import Derived.Test.YtfjpejdlgmlmhaaDoorQFnExactColumnVotesx3
import Derived.Test.YtfjpejdlgmlmhaaDoorZpl
namespace Go.Proofs.YtfjpejdlgmlmhaaDoor.PuqFnExactColumnVotes
open Go.RowKit Go.Proofs.YtfjpejdlgmlmhaaDoor.QFnExactColumnVotes Go.Proofs.YtfjpejdlgmlmhaaDoorW.PrintWords Go.Proofs.YtfjpejdlgmlmhaaDoorW.PrintLast Go.Proofs.YtfjpejdlgmlmhaaDoorPl
set_option linter.unusedVariables false

/-- Is every byte one of a, b, c, d? -/
def isV (s : ByteArray) : Bool := s.data.toList.all fun b => decide (97 ≤ b.toNat ∧ b.toNat ≤ 100)

theorem isV_bt (s : ByteArray) : isV s = true ↔ ∀ i : Nat, i < s.size → 97 ≤ bt s (i : Int) ∧ bt s (i : Int) ≤ 100 := by
  unfold isV
  rw [List.all_eq_true]
  constructor
  · intro h i hi
    have := h (s[i]'hi) (by rw [show s[i]'hi = s.data.toList[i]'(by simpa using hi) from rfl]; exact List.getElem_mem _)
    unfold bt; rw [dif_pos (by simpa using hi)]
    simp only [decide_eq_true_eq] at this
    simp only [Int.toNat_natCast]
    omega
  · intro h b hb
    obtain ⟨i, hi, rfl⟩ := List.mem_iff_getElem.mp hb
    have hi' : i < s.size := by simpa using hi
    have h1 := h i hi'
    unfold bt at h1; rw [dif_pos (by simpa using hi')] at h1
    simp only [Int.toNat_natCast] at h1
    have h2 : s[i]'hi' = s.data.toList[i]'hi := rfl
    rw [h2] at h1
    simp only [decide_eq_true_eq]
    omega

theorem voGood_l (s : ByteArray) (hn : s.size ≤ 1048576) (d : Nat) : ∀ (k i : Nat), i + d = s.size → d < k → spec_voGood.l0 k s (i : Int) = some ((List.range' i d).all fun j => decide (97 ≤ bt s (j : Int) ∧ bt s (j : Int) ≤ 100)) := by
  induction d with
  | zero =>
    intro k i h1 h2
    obtain ⟨k, rfl⟩ : ∃ m, k = m + 1 := ⟨k - 1, by omega⟩
    simp only [spec_voGood.l0]
    rw [if_neg (by omega)]
    rfl
  | succ d ih =>
    intro k i h1 h2
    obtain ⟨k, rfl⟩ : ∃ m, k = m + 1 := ⟨k - 1, by omega⟩
    simp only [spec_voGood.l0]
    rw [if_pos (by omega), if_pos (by omega), w64 (by omega) (by omega), show ((i : Int) + 1) = ((i + 1 : Nat) : Int) by omega, ih k (i + 1) (by omega) (by omega), List.range'_succ, List.all_cons]
    by_cases h' : bt s (i : Int) < 97
    · rw [if_pos h', decide_eq_false (by omega), Bool.false_and]
    · rw [if_neg h']
      by_cases h : bt s (i : Int) > 100
      · rw [if_pos h, decide_eq_false (by omega), Bool.false_and]
      · rw [if_neg h, decide_eq_true (by omega), Bool.true_and]

theorem voGood_eq (s : ByteArray) (k : Nat) (hk : 17 < k) : spec_voGood.f k s = some (decide (s.size ≤ 16) && isV s) := by
  unfold spec_voGood.f
  by_cases h : s.size ≤ 16
  · rw [if_neg (by omega)]
    have := voGood_l s (by omega) s.size k 0 (by omega) (by omega)
    rw [show ((0 : Nat) : Int) = 0 from rfl] at this
    rw [this]
    congr 1
    rw [Bool.eq_iff_iff, List.all_eq_true]
    simp only [decide_eq_true_eq, Bool.and_eq_true]
    rw [isV_bt]
    exact ⟨fun H => ⟨h, fun i hi => H i (by rw [List.mem_range'_1]; omega)⟩, fun H i hi => H.2 i (by rw [List.mem_range'_1] at hi; omega)⟩
  · rw [if_pos (by omega)]
    simp [h]

theorem areVotes_eq (s : ByteArray) (hs : s.size ≤ 140737488351232) : impl_AreVotes.f s = some (decide (s.size ≤ 16) && isV s) := by
  unfold impl_AreVotes.f
  by_cases h : s.size ≤ 16
  · rw [if_pos (by omega)]
    unfold impl_isMade.f strings_Trim.f
    rw [if_pos (by omega), if_pos (by decide), if_pos (by decide)]
    simp only [Option.bind_some, Option.some.injEq]
    rw [trim_eq]
    simp only [h, decide_true, Bool.true_and]
    unfold isV
    congr 1
    funext b
    rw [Bool.eq_iff_iff]
    simp only [decide_eq_true_eq]
    have e : ∀ n : Fin 256, (([97, 98, 99, 100] : List UInt8).contains (UInt8.ofNat n.val) = true ↔ (97 ≤ n.val ∧ n.val ≤ 100)) := by decide +kernel
    have e' := e ⟨b.toNat, b.toNat_lt⟩
    rw [UInt8.ofNat_toNat] at e'
    exact e'
  · rw [if_neg (by omega)]
    simp [h]

/-- How many of the first i votes are for candidate c. -/
def cn (s : ByteArray) (c : Int) : Nat → Int
  | 0 => 0
  | i + 1 => cn s c i + (if bt s (i : Int) - 97 = c then 1 else 0)
theorem cn_bound (s : ByteArray) (c : Int) : ∀ i : Nat, 0 ≤ cn s c i ∧ cn s c i ≤ i
  | 0 => by simp [cn]
  | i + 1 => by have := cn_bound s c i; unfold cn; split <;> omega
theorem wcn (s : ByteArray) (c : Int) (i : Nat) (h : i ≤ 16) : wrap64 (cn s c i + 1) = cn s c i + 1 := by
  have hb := cn_bound s c i
  generalize cn s c i = x at hb ⊢
  exact w64 (by omega) (by omega)
theorem cn_congr (s t : ByteArray) (c : Int) : ∀ i : Nat, (∀ j : Nat, j < i → bt s (j : Int) = bt t (j : Int)) → cn s c i = cn t c i
  | 0, _ => rfl
  | i + 1, h => by unfold cn; rw [cn_congr s t c i (fun j hj => h j (by omega)), h i (by omega)]
theorem bt_extract (s : ByteArray) (m j : Nat) (hm : m ≤ s.size) (hj : j < m) : bt (s.extract 0 m) (j : Int) = bt s (j : Int) := by
  unfold bt
  have h1 : (s.extract 0 m).size = m := by rw [ByteArray.size_extract]; omega
  simp only [Int.toNat_natCast]
  rw [dif_pos (by omega), dif_pos (by omega)]
  congr 2
  rw [ByteArray.getElem_extract]
  congr 1
  omega
theorem size_pre (s : ByteArray) (m : Nat) (hm : m ≤ s.size) : (s.extract 0 m).size = m := by rw [ByteArray.size_extract]; omega

/-- Are the letters among the first ones? -/
def okV (s : ByteArray) : Prop := ∀ i : Nat, i < s.size → 97 ≤ bt s (i : Int) ∧ bt s (i : Int) ≤ 100
theorem okV_pre (s : ByteArray) (h : okV s) (m : Nat) (hm : m ≤ s.size) : okV (s.extract 0 m) := by
  intro i hi
  rw [size_pre s m hm] at hi
  rw [bt_extract s m i hm hi]; exact h i (by omega)

def ordv (s : ByteArray) (m : Nat) : Bool := decide (cn s 0 m ≥ cn s 1 m ∧ cn s 1 m ≥ cn s 2 m ∧ cn s 2 m ≥ cn s 3 m)

theorem tally_l (s : ByteArray) (hs : s.size ≤ 16) (hv : okV s) (d : Nat) : ∀ (k i : Nat), i + d = s.size → d < k → impl_tallyOf.l0 k s (s.size : Int) (i : Int) (cn s 0 i) (cn s 1 i) (cn s 2 i) (cn s 3 i) = some (cn s 0 s.size, cn s 1 s.size, cn s 2 s.size, cn s 3 s.size) := by
  induction d with
  | zero =>
    intro k i h1 h2
    obtain ⟨k, rfl⟩ : ∃ m, k = m + 1 := ⟨k - 1, by omega⟩
    obtain rfl : i = s.size := by omega
    simp only [impl_tallyOf.l0]
    rw [if_neg (by omega)]
  | succ d ih =>
    intro k i h1 h2
    obtain ⟨k, rfl⟩ : ∃ m, k = m + 1 := ⟨k - 1, by omega⟩
    have hb := hv i (by omega)
    have em : (bt s (i : Int) - 97) % 256 = bt s (i : Int) - 97 := by omega
    have ew : wrap64 ((i : Int) + 1) = ((i + 1 : Nat) : Int) := by rw [w64 (by omega) (by omega)]; omega
    have f := ih k (i + 1) (by omega) (by omega)
    have g0 := wcn s 0 i (by omega)
    have g1 := wcn s 1 i (by omega)
    have g2 := wcn s 2 i (by omega)
    have g3 := wcn s 3 i (by omega)
    simp only [impl_tallyOf.l0, em, ew, g0, g1, g2, g3]
    rw [if_pos (by omega), if_pos (by omega), if_pos (by omega), if_pos (by omega), if_pos (by omega)]
    simp only [cn] at f
    by_cases h0 : bt s (i : Int) - 97 = 0
    · rw [if_pos h0]; simp only [h0, if_true, show ((0 : Int) = 1) = False by simp, show ((0 : Int) = 2) = False by simp, show ((0 : Int) = 3) = False by simp, if_false, Int.add_zero] at f; exact f
    · rw [if_neg h0]
      by_cases h1 : bt s (i : Int) - 97 = 1
      · rw [if_pos h1]; simp only [h1, if_true, show ((1 : Int) = 0) = False by simp, show ((1 : Int) = 2) = False by simp, show ((1 : Int) = 3) = False by simp, if_false, Int.add_zero] at f; exact f
      · rw [if_neg h1]
        by_cases h2 : bt s (i : Int) - 97 = 2
        · rw [if_pos h2]; simp only [h2, if_true, show ((2 : Int) = 0) = False by simp, show ((2 : Int) = 1) = False by simp, show ((2 : Int) = 3) = False by simp, if_false, Int.add_zero] at f; exact f
        · have h3 : bt s (i : Int) - 97 = 3 := by omega
          rw [if_neg h2, if_pos h3]; simp only [h3, if_true, show ((3 : Int) = 0) = False by simp, show ((3 : Int) = 1) = False by simp, show ((3 : Int) = 2) = False by simp, if_false, Int.add_zero] at f; exact f

theorem tally_eq (s : ByteArray) (hs : s.size ≤ 16) (hv : okV s) (k : Nat) (hk : s.size < k) : impl_tallyOf.f k s = some (cn s 0 s.size, cn s 1 s.size, cn s 2 s.size, cn s 3 s.size) :=
  tally_l s hs hv s.size k 0 (by omega) hk

theorem counts_l (s : ByteArray) (hs : s.size ≤ 16) (hv : okV s) (d : Nat) : ∀ (k i : Nat), i + d = s.size → d < k → spec_voCounts.l0 k s [cn s 0 i, cn s 1 i, cn s 2 i, cn s 3 i] (i : Int) = some [cn s 0 s.size, cn s 1 s.size, cn s 2 s.size, cn s 3 s.size] := by
  induction d with
  | zero =>
    intro k i h1 h2
    obtain ⟨k, rfl⟩ : ∃ m, k = m + 1 := ⟨k - 1, by omega⟩
    obtain rfl : i = s.size := by omega
    simp only [spec_voCounts.l0]
    rw [if_neg (by omega)]
  | succ d ih =>
    intro k i h1 h2
    obtain ⟨k, rfl⟩ : ∃ m, k = m + 1 := ⟨k - 1, by omega⟩
    have hb := hv i (by omega)
    have em : (bt s (i : Int) - 97) % 256 = bt s (i : Int) - 97 := by omega
    have ew : wrap64 ((i : Int) + 1) = ((i + 1 : Nat) : Int) := by rw [w64 (by omega) (by omega)]; omega
    have f := ih k (i + 1) (by omega) (by omega)
    simp only [spec_voCounts.l0, em, ew, List.length_cons, List.length_nil]
    rw [if_pos (by omega), if_pos (by omega), if_pos (by omega), if_pos (by omega)]
    simp only [cn] at f
    by_cases h0 : bt s (i : Int) - 97 = 0
    · simp only [h0, if_true, show ((0 : Int) = 1) = False by simp, show ((0 : Int) = 2) = False by simp, show ((0 : Int) = 3) = False by simp, if_false, Int.add_zero] at f ⊢
      rw [show rd [cn s 0 i, cn s 1 i, cn s 2 i, cn s 3 i] 0 = cn s 0 i from rfl, wcn s 0 i (by omega)]; exact f
    · by_cases h1 : bt s (i : Int) - 97 = 1
      · simp only [h1, if_true, show ((1 : Int) = 0) = False by simp, show ((1 : Int) = 2) = False by simp, show ((1 : Int) = 3) = False by simp, if_false, Int.add_zero] at f ⊢
        rw [show rd [cn s 0 i, cn s 1 i, cn s 2 i, cn s 3 i] 1 = cn s 1 i from rfl, wcn s 1 i (by omega)]; exact f
      · by_cases h2 : bt s (i : Int) - 97 = 2
        · simp only [h2, if_true, show ((2 : Int) = 0) = False by simp, show ((2 : Int) = 1) = False by simp, show ((2 : Int) = 3) = False by simp, if_false, Int.add_zero] at f ⊢
          rw [show rd [cn s 0 i, cn s 1 i, cn s 2 i, cn s 3 i] 2 = cn s 2 i from rfl, wcn s 2 i (by omega)]; exact f
        · have h3 : bt s (i : Int) - 97 = 3 := by omega
          simp only [h3, if_true, show ((3 : Int) = 0) = False by simp, show ((3 : Int) = 1) = False by simp, show ((3 : Int) = 2) = False by simp, if_false, Int.add_zero] at f ⊢
          rw [show rd [cn s 0 i, cn s 1 i, cn s 2 i, cn s 3 i] 3 = cn s 3 i from rfl, wcn s 3 i (by omega)]; exact f

theorem counts_eq (s : ByteArray) (hs : s.size ≤ 16) (hv : okV s) (k : Nat) (hk : s.size < k) : spec_voCounts.f k s = some [cn s 0 s.size, cn s 1 s.size, cn s 2 s.size, cn s 3 s.size] := by
  unfold spec_voCounts.f
  rw [if_pos (by decide)]
  exact counts_l s hs hv s.size k 0 (by omega) hk

theorem falls_eq (a b c d : Int) (k : Nat) (hk : 5 < k) : spec_voFalls.f k [a, b, c, d] = some (decide (a ≥ b ∧ b ≥ c ∧ c ≥ d)) := by
  obtain ⟨k, rfl⟩ : ∃ m, k = m + 4 := ⟨k - 4, by omega⟩
  unfold spec_voFalls.f
  have w0 : wrap64 (1 - 1) = 0 := by rw [w64 (by omega) (by omega)]; rfl
  have w1 : wrap64 (2 - 1) = 1 := by rw [w64 (by omega) (by omega)]; rfl
  have w2 : wrap64 (3 - 1) = 2 := by rw [w64 (by omega) (by omega)]; rfl
  have v1 : wrap64 (1 + 1) = 2 := by rw [w64 (by omega) (by omega)]; rfl
  have v2 : wrap64 (2 + 1) = 3 := by rw [w64 (by omega) (by omega)]; rfl
  have v3 : wrap64 (3 + 1) = 4 := by rw [w64 (by omega) (by omega)]; rfl
  have r0 : rd [a, b, c, d] 0 = a := rfl
  have r1 : rd [a, b, c, d] 1 = b := rfl
  have r2 : rd [a, b, c, d] 2 = c := rfl
  have r3 : rd [a, b, c, d] 3 = d := rfl
  have l4 : (([a, b, c, d] : List Int).length : Int) = 4 := rfl
  simp only [spec_voFalls.l0, l4, w0, w1, w2, v1, v2, v3, r0, r1, r2, r3]
  simp only [show ((1 : Int) < 4) = True by simp, show ((2 : Int) < 4) = True by simp, show ((3 : Int) < 4) = True by simp, show ((0 : Int) < 4) = True by simp, show ((4 : Int) < 4) = False by simp, show ((0 : Int) ≤ 0) = True by simp, show ((0 : Int) ≤ 1) = True by simp, show ((0 : Int) ≤ 2) = True by simp, show ((0 : Int) ≤ 3) = True by simp, if_true, if_false]
  by_cases h1 : a < b
  · rw [if_pos h1, decide_eq_false (by omega)]
  · rw [if_neg h1]
    by_cases h2 : b < c
    · rw [if_pos h2, decide_eq_false (by omega)]
    · rw [if_neg h2]
      by_cases h3 : c < d
      · rw [if_pos h3, decide_eq_false (by omega)]
      · rw [if_neg h3, decide_eq_true (by omega)]

theorem ordered_eq (a b c d : Int) : impl_tally_isOrdered.f a b c d = some (decide (a ≥ b ∧ b ≥ c ∧ c ≥ d)) := by
  unfold impl_tally_isOrdered.f
  by_cases h1 : a ≥ b
  · rw [if_pos h1]
    by_cases h2 : b ≥ c
    · rw [if_pos h2]; congr 1; rw [decide_eq_decide]; omega
    · rw [if_neg h2, decide_eq_false (by omega)]
  · rw [if_neg h1, decide_eq_false (by omega)]


/-- The first number of votes behind which they are not ordered, from i on, or -1. -/
def fo (s : ByteArray) : Nat → Nat → Int
  | 0, _ => -1
  | d + 1, i => if ordv s (i + 1) = true then fo s d (i + 1) else ((i + 1 : Nat) : Int)
theorem fo_succ (s : ByteArray) (d i : Nat) : fo s (d + 1) i = if ordv s (i + 1) = true then fo s d (i + 1) else ((i + 1 : Nat) : Int) := rfl
theorem fo_le (s : ByteArray) : ∀ d i : Nat, fo s d i = -1 ∨ (1 ≤ fo s d i ∧ fo s d i ≤ i + d)
  | 0, _ => .inl rfl
  | d + 1, i => by
    rw [fo_succ]; split
    · have := fo_le s d (i + 1); omega
    · right; omega

theorem pre_cn (s : ByteArray) (m : Nat) (hm : m ≤ s.size) (c : Int) : cn (s.extract 0 m) c (s.extract 0 m).size = cn s c m := by
  rw [size_pre s m hm]; exact cn_congr _ _ c m (fun j hj => bt_extract s m j hm hj)

theorem over_l (s : ByteArray) (hs : s.size ≤ 16) (hv : okV s) (d : Nat) : ∀ (k i : Nat), i + d = s.size → d + 20 < k → impl_overtaken.l0 k s (s.size : Int) (i : Int) = some (fo s d i) := by
  induction d with
  | zero =>
    intro k i h1 h2
    obtain ⟨k, rfl⟩ : ∃ m, k = m + 1 := ⟨k - 1, by omega⟩
    simp only [impl_overtaken.l0]
    rw [if_neg (by omega)]; first | done | rfl
  | succ d ih =>
    intro k i h1 h2
    obtain ⟨k, rfl⟩ : ∃ m, k = m + 1 := ⟨k - 1, by omega⟩
    have ew : wrap64 ((i : Int) + 1) = ((i + 1 : Nat) : Int) := by rw [w64 (by omega) (by omega)]; omega
    simp only [impl_overtaken.l0, ew, Int.toNat_natCast]
    rw [if_pos (by omega), if_pos (by omega), if_pos (by omega), tally_eq _ (by rw [size_pre s _ (by omega)]; omega) (okV_pre s hv _ (by omega)) k (by rw [size_pre s _ (by omega)]; omega)]
    simp only [Option.bind_some, pre_cn s (i + 1) (by omega)]
    rw [ordered_eq]
    simp only [Option.bind_some]
    rw [ih k (i + 1) (by omega) (by omega)]
    show (if ordv s (i + 1) = true then _ else _) = some (fo s (d + 1) i)
    rw [fo_succ]; split <;> rfl

theorem first_l (s : ByteArray) (hs : s.size ≤ 16) (hv : okV s) (d : Nat) : ∀ (k i : Nat), i + d = s.size → d + 20 < k → spec_voFirst.l0 k s ((i + 1 : Nat) : Int) = some (fo s d i) := by
  induction d with
  | zero =>
    intro k i h1 h2
    obtain ⟨k, rfl⟩ : ∃ m, k = m + 1 := ⟨k - 1, by omega⟩
    simp only [spec_voFirst.l0]
    rw [if_neg (by omega)]; first | done | rfl
  | succ d ih =>
    intro k i h1 h2
    obtain ⟨k, rfl⟩ : ∃ m, k = m + 1 := ⟨k - 1, by omega⟩
    have ew : wrap64 (((i + 1 : Nat) : Int) + 1) = ((i + 1 + 1 : Nat) : Int) := by rw [w64 (by omega) (by omega)]; omega
    simp only [spec_voFirst.l0, ew, Int.toNat_natCast]
    rw [if_pos (by omega), if_pos (by omega), counts_eq _ (by rw [size_pre s _ (by omega)]; omega) (okV_pre s hv _ (by omega)) k (by rw [size_pre s _ (by omega)]; omega)]
    simp only [Option.bind_some, pre_cn s (i + 1) (by omega)]
    rw [falls_eq _ _ _ _ k (by omega)]
    simp only [Option.bind_some]
    rw [ih k (i + 1) (by omega) (by omega)]
    show (if ordv s (i + 1) = true then _ else _) = some (fo s (d + 1) i)
    rw [fo_succ]; split <;> rfl

theorem over_eq (s : ByteArray) (hs : s.size ≤ 16) (hv : okV s) (k : Nat) (hk : 40 < k) : impl_overtaken.f k s = some (fo s s.size 0) := over_l s hs hv s.size k 0 (by omega) (by omega)
theorem first_eq (s : ByteArray) (hs : s.size ≤ 16) (hv : okV s) (k : Nat) (hk : 40 < k) : spec_voFirst.f k s = some (fo s s.size 0) := first_l s hs hv s.size k 0 (by omega) (by omega)

/-- Are the votes ordered all along? -/
def ordAll (s : ByteArray) : Bool := decide (fo s s.size 0 < 0)
theorem areOrd_eq (s : ByteArray) (hs : s.size ≤ 140737488351232) (k : Nat) (hk : 60 < k) : impl_areOrderedVotes.f k s = some ((decide (s.size ≤ 16) && isV s) && ordAll s) := by
  unfold impl_areOrderedVotes.f
  rw [areVotes_eq s hs]
  by_cases h : s.size ≤ 16 ∧ isV s = true
  · have hc : (decide (s.size ≤ 16) && isV s) = true := by simp [h]
    have hv : okV s := (isV_bt s).mp h.2
    rw [hc]
    simp only [Option.bind_some, if_true]
    rw [over_eq s h.1 hv k (by omega)]
    rfl
  · have hc : (decide (s.size ≤ 16) && isV s) = false := by
      cases hh : (decide (s.size ≤ 16) && isV s) with
      | false => rfl
      | true => exact absurd (by simpa using hh) h
    rw [hc]; rfl

/-- The candidate whom vote i names, from 0 on. -/
def cand (s : ByteArray) (i : Nat) : Nat := (bt s (i : Int) - 97).toNat
theorem cand_eq (s : ByteArray) (hv : okV s) (i : Nat) (hi : i < s.size) : (bt s (i : Int) - 97) % 256 = (cand s i : Int) ∧ cand s i < 4 := by
  have := hv i hi
  unfold cand
  omega

theorem bt_list (s : ByteArray) (i : Nat) (hi : i < s.data.toList.length) : bt s (i : Int) = ((s.data.toList[i]'hi).toNat : Int) := by
  unfold bt; rw [dif_pos (by simpa using hi)]
  simp only [Int.toNat_natCast]
  rfl
theorem bt_abcd (t : Int) (h0 : 0 ≤ t) (h1 : t ≤ 3) : bt (⟨#[97, 98, 99, 100]⟩ : ByteArray) t = 97 + t := by
  obtain h | h | h | h : t = 0 ∨ t = 1 ∨ t = 2 ∨ t = 3 := by omega
  all_goals subst h; rfl

theorem fo_neg (s : ByteArray) : ∀ d i : Nat, fo s d i < 0 → ∀ m : Nat, i < m → m ≤ i + d → ordv s m = true
  | 0, i, h, m, h1, h2 => by omega
  | d + 1, i, h, m, h1, h2 => by
    rw [fo_succ] at h
    by_cases e : ordv s (i + 1) = true
    · rw [if_pos e] at h
      by_cases em : m = i + 1
      · rw [em]; exact e
      · exact fo_neg s d (i + 1) h m (by omega) (by omega)
    · rw [if_neg e] at h; omega
theorem cn_mono (s : ByteArray) (c : Int) (i : Nat) : ∀ d : Nat, cn s c i ≤ cn s c (i + d)
  | 0 => Int.le_refl _
  | d + 1 => by
    have := cn_mono s c i d
    show _ ≤ cn s c (i + d) + _
    split <;> omega
theorem cn_next (s : ByteArray) (hv : okV s) (i : Nat) (hi : i < s.size) : cn s (cand s i : Int) (i + 1) = cn s (cand s i : Int) i + 1 := by
  have h := hv i hi
  have e : bt s (i : Int) - 97 = (cand s i : Int) := by unfold cand; omega
  show cn s _ i + (if bt s (i : Int) - 97 = (cand s i : Int) then 1 else 0) = _
  rw [if_pos e]
theorem cn_other (s : ByteArray) (hv : okV s) (i : Nat) (hi : i < s.size) (c : Int) (hc : c ≠ (cand s i : Int)) : cn s c (i + 1) = cn s c i := by
  have h := hv i hi
  have e : bt s (i : Int) - 97 = (cand s i : Int) := by unfold cand; omega
  show cn s _ i + (if bt s (i : Int) - 97 = c then 1 else 0) = _
  rw [if_neg (by rw [e]; exact fun h => hc h.symm)]; omega
theorem cand_cases (s : ByteArray) (hv : okV s) (i : Nat) (hi : i < s.size) : cand s i = 0 ∨ cand s i = 1 ∨ cand s i = 2 ∨ cand s i = 3 := by
  have := (cand_eq s hv i hi).2; omega
theorem cn_small (s : ByteArray) (hv : okV s) (ho : ordv s s.size = true) (h4 : cn s 0 s.size ≤ 4) (i : Nat) (hi : i < s.size) : 0 ≤ cn s (cand s i : Int) i ∧ cn s (cand s i : Int) i ≤ 3 := by
  refine ⟨(cn_bound s _ i).1, ?_⟩
  have h1 := cn_next s hv i hi
  have h2 := cn_mono s (cand s i : Int) (i + 1) (s.size - (i + 1))
  rw [show i + 1 + (s.size - (i + 1)) = s.size by omega] at h2
  unfold ordv at ho
  have ho := of_decide_eq_true ho
  have h3 : cn s (cand s i : Int) s.size ≤ cn s 0 s.size := by
    obtain h | h | h | h := cand_cases s hv i hi <;> rw [h]
    · exact Int.le_refl _
    · exact ho.1
    · exact Int.le_trans ho.2.1 ho.1
    · exact Int.le_trans ho.2.2 (Int.le_trans ho.2.1 ho.1)
  omega

theorem cnt_cn (s : ByteArray) (b : UInt8) : ∀ i : Nat, i ≤ s.size → (((s.data.toList.take i).count b : Nat) : Int) = cn s ((b.toNat : Int) - 97) i
  | 0, _ => by simp [cn]
  | i + 1, h => by
    have hl : i < s.data.toList.length := by
      have : s.data.toList.length = s.size := by simp
      omega
    have ih := cnt_cn s b i (by omega)
    rw [List.take_add_one, List.getElem?_eq_getElem hl, List.count_append, Int.natCast_add, ih]
    show _ = cn s _ i + _
    rw [bt_list s i hl]
    congr 1
    by_cases e : s.data.toList[i] = b
    · rw [e]; simp
    · have e2 : ¬ ((s.data.toList[i]).toNat : Int) - 97 = (b.toNat : Int) - 97 := by
        intro h2; apply e; apply UInt8.toNat_inj.mp; omega
      rw [if_neg e2]
      show (([s.data.toList[i]].count b : Nat) : Int) = 0
      rw [List.count_eq_zero.mpr (fun hm => e (List.mem_singleton.mp hm).symm)]; rfl
theorem take_one (l : List UInt8) (i : Nat) (h : i < l.length) : (l.drop i).take 1 = [l[i]] := by
  rw [List.drop_eq_getElem_cons h]; rfl
theorem count_eq (s : ByteArray) (hv : okV s) (i : Nat) (hi : i < s.size) : strings_Count.f (s.extract 0 i) (s.extract i (i + 1)) = some (cn s (cand s i : Int) i) := by
  have hl : i < s.data.toList.length := by
    have : s.data.toList.length = s.size := by simp
    omega
  have e1 : (s.extract i (i + 1)).data.toList = [s.data.toList[i]'hl] := by
    rw [ByteArray.data_extract, Array.toList_extract, List.extract_eq_take_drop, show i + 1 - i = 1 by omega]
    exact take_one _ i hl
  have e2 : (s.extract 0 i).data.toList = s.data.toList.take i := by
    rw [ByteArray.data_extract, Array.toList_extract, List.extract_eq_take_drop, List.drop_zero, Nat.sub_zero]
  unfold strings_Count.f
  rw [e1]
  show some ((Lib.countByte (s.extract 0 i).data.toList (s.data.toList[i]'hl) : Nat) : Int) = _
  rw [e2]
  unfold Lib.countByte
  rw [cnt_cn s _ i (by omega), ← bt_list s i hl]
  have h := hv i hi
  rw [show bt s (i : Int) - 97 = (cand s i : Int) by unfold cand; omega]

/-- The letters of the columns' votes so far. -/
def colL (s : ByteArray) : Nat → List Int
  | 0 => []
  | i + 1 => colL s i ++ [97 + cn s (cand s i : Int) i]
theorem colL_length (s : ByteArray) : ∀ i : Nat, (colL s i).length = i
  | 0 => rfl
  | i + 1 => by show (colL s i ++ _).length = _; rw [List.length_append, colL_length s i]; rfl
theorem ex_abcd (t : Int) (h0 : 0 ≤ t) (h1 : t ≤ 3) : (⟨#[97, 98, 99, 100]⟩ : ByteArray).extract t.toNat (t + 1).toNat = strOfNums [97 + t] := by
  obtain h | h | h | h : t = 0 ∨ t = 1 ∨ t = 2 ∨ t = 3 := by omega
  all_goals subst h; rfl
theorem str_snoc (l : List Int) (x : Int) : strOfNums (l ++ [x]) = strOfNums l ++ strOfNums [x] := by
  apply ByteArray.ext
  rw [ByteArray.data_append]
  apply Array.ext'
  simp [strOfNums]

theorem impl_l (s : ByteArray) (hs : s.size ≤ 16) (hv : okV s) (ho : ordv s s.size = true) (h4 : cn s 0 s.size ≤ 4) (d : Nat) : ∀ (k i : Nat), i + d = s.size → d < k → impl_ColumnVotes.l0 k s (colL s i) (s.size : Int) (i : Int) = some (strOfNums (colL s s.size), true) := by
  induction d with
  | zero =>
    intro k i h1 h2
    obtain ⟨k, rfl⟩ : ∃ m, k = m + 1 := ⟨k - 1, by omega⟩
    obtain rfl : i = s.size := by omega
    simp only [impl_ColumnVotes.l0]
    rw [if_neg (by omega)]
  | succ d ih =>
    intro k i h1 h2
    obtain ⟨k, rfl⟩ : ∃ m, k = m + 1 := ⟨k - 1, by omega⟩
    have e3 : wrap64 ((i : Int) + 1) = ((i + 1 : Nat) : Int) := by rw [w64 (by omega) (by omega)]; omega
    have c3 := cn_small s hv ho h4 i (by omega)
    simp only [impl_ColumnVotes.l0, e3, Int.toNat_natCast]
    rw [if_pos (by omega), if_pos (by omega), if_pos (by omega), if_pos (by omega), if_pos (by omega), count_eq s hv i (by omega)]
    simp only [Option.bind_some]
    rw [if_pos c3.1, if_pos (by omega), if_pos (by rw [colL_length]; omega), bt_abcd _ c3.1 c3.2]
    exact ih k (i + 1) (by omega) (by omega)
theorem spec_l (s : ByteArray) (hs : s.size ≤ 16) (hv : okV s) (ho : ordv s s.size = true) (h4 : cn s 0 s.size ≤ 4) (d : Nat) : ∀ (k i : Nat), i + d = s.size → d < k → spec_ColumnVotes.l0 k s [cn s 0 i, cn s 1 i, cn s 2 i, cn s 3 i] (strOfNums (colL s i)) (i : Int) = some (strOfNums (colL s s.size), true) := by
  induction d with
  | zero =>
    intro k i h1 h2
    obtain ⟨k, rfl⟩ : ∃ m, k = m + 1 := ⟨k - 1, by omega⟩
    obtain rfl : i = s.size := by omega
    simp only [spec_ColumnVotes.l0]
    rw [if_neg (by omega)]
  | succ d ih =>
    intro k i h1 h2
    obtain ⟨k, rfl⟩ : ∃ m, k = m + 1 := ⟨k - 1, by omega⟩
    have e3 : wrap64 ((i : Int) + 1) = ((i + 1 : Nat) : Int) := by rw [w64 (by omega) (by omega)]; omega
    obtain ⟨c1, c2⟩ := cand_eq s hv i (by omega)
    have c3 := cn_small s hv ho h4 i (by omega)
    have e4 : rd [cn s 0 i, cn s 1 i, cn s 2 i, cn s 3 i] (cand s i : Int) = cn s (cand s i : Int) i := by
      obtain h | h | h | h := cand_cases s hv i (by omega) <;> rw [h] <;> rfl
    have e5 : [cn s 0 i, cn s 1 i, cn s 2 i, cn s 3 i].set (cand s i) (cn s (cand s i : Int) i + 1) = [cn s 0 (i + 1), cn s 1 (i + 1), cn s 2 (i + 1), cn s 3 (i + 1)] := by
      have n1 := cn_next s hv i (by omega)
      have n2 := cn_other s hv i (by omega)
      obtain h | h | h | h := cand_cases s hv i (by omega) <;> rw [h] at n1 n2 ⊢
      · rw [n2 1 (by decide), n2 2 (by decide), n2 3 (by decide), show cn s 0 (i + 1) = cn s 0 i + 1 from n1]; rfl
      · rw [n2 0 (by decide), n2 2 (by decide), n2 3 (by decide), show cn s 1 (i + 1) = cn s 1 i + 1 from n1]; rfl
      · rw [n2 0 (by decide), n2 1 (by decide), n2 3 (by decide), show cn s 2 (i + 1) = cn s 2 i + 1 from n1]; rfl
      · rw [n2 0 (by decide), n2 1 (by decide), n2 2 (by decide), show cn s 3 (i + 1) = cn s 3 i + 1 from n1]; rfl
    have e6 : wrap64 (cn s (cand s i : Int) i + 1) = cn s (cand s i : Int) i + 1 := w64 (by omega) (by omega)
    simp only [spec_ColumnVotes.l0, e3, c1, e4, e6, Int.toNat_natCast, ex_abcd _ c3.1 c3.2, e5]
    rw [if_pos (by omega), if_pos (by omega), if_pos (by omega), if_pos (by simp; omega), if_pos c3.1, if_pos (by omega), if_pos (by omega), if_pos (by rw [strOfNums_size, strOfNums_size, colL_length]; simp; omega), ← str_snoc]
    exact ih k (i + 1) (by omega) (by omega)
theorem both (s : ByteArray) (hs : s.size ≤ 140737488351232) : ∃ (L : ByteArray) (b : Bool), (∀ k, 100 < k → spec_ColumnVotes.f k s = some (L, b)) ∧ ∀ k, 100 < k → impl_ColumnVotes.f k s = some (L, b) := by
  by_cases h : s.size ≤ 16 ∧ isV s = true
  · have hc : (decide (s.size ≤ 16) && isV s) = true := by simp [h]
    have hv : okV s := (isV_bt s).mp h.2
    by_cases ho : fo s s.size 0 < 0
    · have hor : ordv s s.size = true := by
        by_cases hz : s.size = 0
        · rw [hz]; rfl
        · exact fo_neg s s.size 0 ho s.size (by omega) (by omega)
      by_cases h4 : cn s 0 s.size > 4
      · refine ⟨⟨#[]⟩, false, fun k hk => ?_, fun k hk => ?_⟩
        · obtain ⟨k, rfl⟩ : ∃ m, k = m + 1 := ⟨k - 1, by omega⟩
          unfold spec_ColumnVotes.f
          rw [voGood_eq s _ (by omega), hc]
          simp only [Option.bind_some, if_true]
          rw [first_eq s h.1 hv _ (by omega)]
          simp only [Option.bind_some]
          rw [if_neg (by omega), counts_eq s h.1 hv _ (by omega)]
          simp only [Option.bind_some]
          rw [if_pos (by simp), show rd [cn s 0 s.size, cn s 1 s.size, cn s 2 s.size, cn s 3 s.size] 0 = cn s 0 s.size from rfl, decide_eq_true h4]
          simp [spec_ColumnVotes.j0]
        · obtain ⟨k, rfl⟩ : ∃ m, k = m + 1 := ⟨k - 1, by omega⟩
          unfold impl_ColumnVotes.f
          rw [areOrd_eq s hs _ (by omega), hc]
          unfold ordAll
          rw [decide_eq_true ho]
          simp only [Option.bind_some, Bool.and_self, if_true]
          rw [tally_eq s h.1 hv _ (by omega)]
          simp only [Option.bind_some]
          rw [decide_eq_true h4]
          simp [impl_ColumnVotes.j0]
      · refine ⟨strOfNums (colL s s.size), true, fun k hk => ?_, fun k hk => ?_⟩
        · obtain ⟨k, rfl⟩ : ∃ m, k = m + 1 := ⟨k - 1, by omega⟩
          unfold spec_ColumnVotes.f
          rw [voGood_eq s _ (by omega), hc]
          simp only [Option.bind_some, if_true]
          rw [first_eq s h.1 hv _ (by omega)]
          simp only [Option.bind_some]
          rw [if_neg (by omega), counts_eq s h.1 hv _ (by omega)]
          simp only [Option.bind_some]
          rw [if_pos (by simp), show rd [cn s 0 s.size, cn s 1 s.size, cn s 2 s.size, cn s 3 s.size] 0 = cn s 0 s.size from rfl, decide_eq_false h4]
          simp only [spec_ColumnVotes.j0, Bool.false_eq_true, if_false]
          rw [if_pos (by omega)]
          exact spec_l s h.1 hv hor (by omega) s.size k 0 (by omega) (by omega)
        · obtain ⟨k, rfl⟩ : ∃ m, k = m + 1 := ⟨k - 1, by omega⟩
          unfold impl_ColumnVotes.f
          rw [areOrd_eq s hs _ (by omega), hc]
          unfold ordAll
          rw [decide_eq_true ho]
          simp only [Option.bind_some, Bool.and_self, if_true]
          rw [tally_eq s h.1 hv _ (by omega)]
          simp only [Option.bind_some]
          rw [decide_eq_false h4]
          simp only [impl_ColumnVotes.j0, Bool.false_eq_true, if_false]
          exact impl_l s h.1 hv hor (by omega) s.size k 0 (by omega) (by omega)
    · refine ⟨⟨#[]⟩, false, fun k hk => ?_, fun k hk => ?_⟩
      · obtain ⟨k, rfl⟩ : ∃ m, k = m + 1 := ⟨k - 1, by omega⟩
        unfold spec_ColumnVotes.f
        rw [voGood_eq s _ (by omega), hc]
        simp only [Option.bind_some, if_true]
        rw [first_eq s h.1 hv _ (by omega)]
        simp only [Option.bind_some]
        rw [if_pos (by omega)]
        simp [spec_ColumnVotes.j0]
      · obtain ⟨k, rfl⟩ : ∃ m, k = m + 1 := ⟨k - 1, by omega⟩
        unfold impl_ColumnVotes.f
        rw [areOrd_eq s hs _ (by omega), hc]
        unfold ordAll
        rw [decide_eq_false ho]
        simp [impl_ColumnVotes.j0]
  · have hc : (decide (s.size ≤ 16) && isV s) = false := by
      cases hh : (decide (s.size ≤ 16) && isV s) with
      | false => rfl
      | true => exact absurd (by simpa using hh) h
    refine ⟨⟨#[]⟩, false, fun k hk => ?_, fun k hk => ?_⟩
    · obtain ⟨k, rfl⟩ : ∃ m, k = m + 1 := ⟨k - 1, by omega⟩
      unfold spec_ColumnVotes.f; rw [voGood_eq s _ (by omega), hc]; simp [spec_ColumnVotes.j0]
    · obtain ⟨k, rfl⟩ : ∃ m, k = m + 1 := ⟨k - 1, by omega⟩
      unfold impl_ColumnVotes.f; rw [areOrd_eq s hs _ (by omega), hc]; simp [impl_ColumnVotes.j0]
theorem FnExactColumnVotes : laws_FnExactColumnVotes.Pure := by
  intro s hs
  obtain ⟨L, b, h1, h2⟩ := both s hs
  refine ⟨200, ?_⟩
  unfold laws_FnExactColumnVotes.f
  by_cases hbig : (s.size : Int) > 1048576
  · rw [if_pos hbig]
  · rw [if_neg hbig, h1 _ (by omega)]
    simp only [Option.bind_some]
    rw [h2 _ (by omega)]
    simp

end Go.Proofs.YtfjpejdlgmlmhaaDoor.PuqFnExactColumnVotes
namespace Go.Proofs.YtfjpejdlgmlmhaaDoor.Pure
open Go.Proofs.YtfjpejdlgmlmhaaDoor.QFnExactColumnVotes
theorem FnExactColumnVotes : laws_FnExactColumnVotes.Pure := Go.Proofs.YtfjpejdlgmlmhaaDoor.PuqFnExactColumnVotes.FnExactColumnVotes
end Go.Proofs.YtfjpejdlgmlmhaaDoor.Pure
