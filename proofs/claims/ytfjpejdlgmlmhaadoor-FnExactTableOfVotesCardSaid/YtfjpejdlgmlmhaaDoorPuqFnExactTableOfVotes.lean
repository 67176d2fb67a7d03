/- For every text: TableOfVotes of the program and of the reference answer alike. -/
import Derived.Test.YtfjpejdlgmlmhaaDoorQFnExactTableOfVotesx4
import Derived.Test.YtfjpejdlgmlmhaaDoorZpl
namespace Go.Proofs.YtfjpejdlgmlmhaaDoor.PuqFnExactTableOfVotes
open Go.RowKit Go.Proofs.YtfjpejdlgmlmhaaDoor.QFnExactTableOfVotes Go.Proofs.YtfjpejdlgmlmhaaDoorW.PrintWords Go.Proofs.YtfjpejdlgmlmhaaDoorW.PrintLast Go.Proofs.YtfjpejdlgmlmhaaDoorPl
set_option linter.unusedVariables false

/-- Is every byte one of a, b, c, d? -/
def isV (s : ByteArray) : Bool := s.data.toList.all fun b => decide (97 ≤ b.toNat ∧ b.toNat ≤ 100)

theorem isV_bt (s : ByteArray) : isV s = true ↔ ∀ i : Nat, i < s.size → 97 ≤ bt s (i : Int) ∧ bt s (i : Int) ≤ 100 := by
  unfold isV
  rw [List.all_eq_true]
  constructor
  · intro h i hi
    have := h (s[i]'hi) (by rw [show s[i]'hi = s.data.toList[i]'(by simpa using hi) from rfl]; exact List.getElem_mem _)
    unfold bt; rw [dif_pos (by simpa using hi)]
    simp only [decide_eq_true_eq] at this
    simp only [Int.toNat_natCast]
    omega
  · intro h b hb
    obtain ⟨i, hi, rfl⟩ := List.mem_iff_getElem.mp hb
    have hi' : i < s.size := by simpa using hi
    have h1 := h i hi'
    unfold bt at h1; rw [dif_pos (by simpa using hi')] at h1
    simp only [Int.toNat_natCast] at h1
    have h2 : s[i]'hi' = s.data.toList[i]'hi := rfl
    rw [h2] at h1
    simp only [decide_eq_true_eq]
    omega

theorem voGood_l (s : ByteArray) (hn : s.size ≤ 1048576) (d : Nat) : ∀ (k i : Nat), i + d = s.size → d < k → spec_voGood.l0 k s (i : Int) = some ((List.range' i d).all fun j => decide (97 ≤ bt s (j : Int) ∧ bt s (j : Int) ≤ 100)) := by
  induction d with
  | zero =>
    intro k i h1 h2
    obtain ⟨k, rfl⟩ : ∃ m, k = m + 1 := ⟨k - 1, by omega⟩
    simp only [spec_voGood.l0]
    rw [if_neg (by omega)]
    rfl
  | succ d ih =>
    intro k i h1 h2
    obtain ⟨k, rfl⟩ : ∃ m, k = m + 1 := ⟨k - 1, by omega⟩
    simp only [spec_voGood.l0]
    rw [if_pos (by omega), if_pos (by omega), w64 (by omega) (by omega), show ((i : Int) + 1) = ((i + 1 : Nat) : Int) by omega, ih k (i + 1) (by omega) (by omega), List.range'_succ, List.all_cons]
    by_cases h' : bt s (i : Int) < 97
    · rw [if_pos h', decide_eq_false (by omega), Bool.false_and]
    · rw [if_neg h']
      by_cases h : bt s (i : Int) > 100
      · rw [if_pos h, decide_eq_false (by omega), Bool.false_and]
      · rw [if_neg h, decide_eq_true (by omega), Bool.true_and]

theorem voGood_eq (s : ByteArray) (k : Nat) (hk : 17 < k) : spec_voGood.f k s = some (decide (s.size ≤ 16) && isV s) := by
  unfold spec_voGood.f
  by_cases h : s.size ≤ 16
  · rw [if_neg (by omega)]
    have := voGood_l s (by omega) s.size k 0 (by omega) (by omega)
    rw [show ((0 : Nat) : Int) = 0 from rfl] at this
    rw [this]
    congr 1
    rw [Bool.eq_iff_iff, List.all_eq_true]
    simp only [decide_eq_true_eq, Bool.and_eq_true]
    rw [isV_bt]
    exact ⟨fun H => ⟨h, fun i hi => H i (by rw [List.mem_range'_1]; omega)⟩, fun H i hi => H.2 i (by rw [List.mem_range'_1] at hi; omega)⟩
  · rw [if_pos (by omega)]
    simp [h]

theorem areVotes_eq (s : ByteArray) (hs : s.size ≤ 140737488351232) : impl_AreVotes.f s = some (decide (s.size ≤ 16) && isV s) := by
  unfold impl_AreVotes.f
  by_cases h : s.size ≤ 16
  · rw [if_pos (by omega)]
    unfold impl_isMade.f strings_Trim.f
    rw [if_pos (by omega), if_pos (by decide), if_pos (by decide)]
    simp only [Option.bind_some, Option.some.injEq]
    rw [trim_eq]
    simp only [h, decide_true, Bool.true_and]
    unfold isV
    congr 1
    funext b
    rw [Bool.eq_iff_iff]
    simp only [decide_eq_true_eq]
    have e : ∀ n : Fin 256, (([97, 98, 99, 100] : List UInt8).contains (UInt8.ofNat n.val) = true ↔ (97 ≤ n.val ∧ n.val ≤ 100)) := by decide +kernel
    have e' := e ⟨b.toNat, b.toNat_lt⟩
    rw [UInt8.ofNat_toNat] at e'
    exact e'
  · rw [if_neg (by omega)]
    simp [h]

/-- How many of the first i votes are for candidate c. -/
def cn (s : ByteArray) (c : Int) : Nat → Int
  | 0 => 0
  | i + 1 => cn s c i + (if bt s (i : Int) - 97 = c then 1 else 0)
theorem cn_bound (s : ByteArray) (c : Int) : ∀ i : Nat, 0 ≤ cn s c i ∧ cn s c i ≤ i
  | 0 => by simp [cn]
  | i + 1 => by have := cn_bound s c i; unfold cn; split <;> omega
theorem wcn (s : ByteArray) (c : Int) (i : Nat) (h : i ≤ 16) : wrap64 (cn s c i + 1) = cn s c i + 1 := by
  have hb := cn_bound s c i
  generalize cn s c i = x at hb ⊢
  exact w64 (by omega) (by omega)
theorem cn_congr (s t : ByteArray) (c : Int) : ∀ i : Nat, (∀ j : Nat, j < i → bt s (j : Int) = bt t (j : Int)) → cn s c i = cn t c i
  | 0, _ => rfl
  | i + 1, h => by unfold cn; rw [cn_congr s t c i (fun j hj => h j (by omega)), h i (by omega)]
theorem bt_extract (s : ByteArray) (m j : Nat) (hm : m ≤ s.size) (hj : j < m) : bt (s.extract 0 m) (j : Int) = bt s (j : Int) := by
  unfold bt
  have h1 : (s.extract 0 m).size = m := by rw [ByteArray.size_extract]; omega
  simp only [Int.toNat_natCast]
  rw [dif_pos (by omega), dif_pos (by omega)]
  congr 2
  rw [ByteArray.getElem_extract]
  congr 1
  omega
theorem size_pre (s : ByteArray) (m : Nat) (hm : m ≤ s.size) : (s.extract 0 m).size = m := by rw [ByteArray.size_extract]; omega

/-- Are the letters among the first ones? -/
def okV (s : ByteArray) : Prop := ∀ i : Nat, i < s.size → 97 ≤ bt s (i : Int) ∧ bt s (i : Int) ≤ 100
theorem okV_pre (s : ByteArray) (h : okV s) (m : Nat) (hm : m ≤ s.size) : okV (s.extract 0 m) := by
  intro i hi
  rw [size_pre s m hm] at hi
  rw [bt_extract s m i hm hi]; exact h i (by omega)

def ordv (s : ByteArray) (m : Nat) : Bool := decide (cn s 0 m ≥ cn s 1 m ∧ cn s 1 m ≥ cn s 2 m ∧ cn s 2 m ≥ cn s 3 m)

theorem tally_l (s : ByteArray) (hs : s.size ≤ 16) (hv : okV s) (d : Nat) : ∀ (k i : Nat), i + d = s.size → d < k → impl_tallyOf.l0 k s (s.size : Int) (i : Int) (cn s 0 i) (cn s 1 i) (cn s 2 i) (cn s 3 i) = some (cn s 0 s.size, cn s 1 s.size, cn s 2 s.size, cn s 3 s.size) := by
  induction d with
  | zero =>
    intro k i h1 h2
    obtain ⟨k, rfl⟩ : ∃ m, k = m + 1 := ⟨k - 1, by omega⟩
    obtain rfl : i = s.size := by omega
    simp only [impl_tallyOf.l0]
    rw [if_neg (by omega)]
  | succ d ih =>
    intro k i h1 h2
    obtain ⟨k, rfl⟩ : ∃ m, k = m + 1 := ⟨k - 1, by omega⟩
    have hb := hv i (by omega)
    have em : (bt s (i : Int) - 97) % 256 = bt s (i : Int) - 97 := by omega
    have ew : wrap64 ((i : Int) + 1) = ((i + 1 : Nat) : Int) := by rw [w64 (by omega) (by omega)]; omega
    have f := ih k (i + 1) (by omega) (by omega)
    have g0 := wcn s 0 i (by omega)
    have g1 := wcn s 1 i (by omega)
    have g2 := wcn s 2 i (by omega)
    have g3 := wcn s 3 i (by omega)
    simp only [impl_tallyOf.l0, em, ew, g0, g1, g2, g3]
    rw [if_pos (by omega), if_pos (by omega), if_pos (by omega), if_pos (by omega), if_pos (by omega)]
    simp only [cn] at f
    by_cases h0 : bt s (i : Int) - 97 = 0
    · rw [if_pos h0]; simp only [h0, if_true, show ((0 : Int) = 1) = False by simp, show ((0 : Int) = 2) = False by simp, show ((0 : Int) = 3) = False by simp, if_false, Int.add_zero] at f; exact f
    · rw [if_neg h0]
      by_cases h1 : bt s (i : Int) - 97 = 1
      · rw [if_pos h1]; simp only [h1, if_true, show ((1 : Int) = 0) = False by simp, show ((1 : Int) = 2) = False by simp, show ((1 : Int) = 3) = False by simp, if_false, Int.add_zero] at f; exact f
      · rw [if_neg h1]
        by_cases h2 : bt s (i : Int) - 97 = 2
        · rw [if_pos h2]; simp only [h2, if_true, show ((2 : Int) = 0) = False by simp, show ((2 : Int) = 1) = False by simp, show ((2 : Int) = 3) = False by simp, if_false, Int.add_zero] at f; exact f
        · have h3 : bt s (i : Int) - 97 = 3 := by omega
          rw [if_neg h2, if_pos h3]; simp only [h3, if_true, show ((3 : Int) = 0) = False by simp, show ((3 : Int) = 1) = False by simp, show ((3 : Int) = 2) = False by simp, if_false, Int.add_zero] at f; exact f

theorem tally_eq (s : ByteArray) (hs : s.size ≤ 16) (hv : okV s) (k : Nat) (hk : s.size < k) : impl_tallyOf.f k s = some (cn s 0 s.size, cn s 1 s.size, cn s 2 s.size, cn s 3 s.size) :=
  tally_l s hs hv s.size k 0 (by omega) hk

theorem counts_l (s : ByteArray) (hs : s.size ≤ 16) (hv : okV s) (d : Nat) : ∀ (k i : Nat), i + d = s.size → d < k → spec_voCounts.l0 k s [cn s 0 i, cn s 1 i, cn s 2 i, cn s 3 i] (i : Int) = some [cn s 0 s.size, cn s 1 s.size, cn s 2 s.size, cn s 3 s.size] := by
  induction d with
  | zero =>
    intro k i h1 h2
    obtain ⟨k, rfl⟩ : ∃ m, k = m + 1 := ⟨k - 1, by omega⟩
    obtain rfl : i = s.size := by omega
    simp only [spec_voCounts.l0]
    rw [if_neg (by omega)]
  | succ d ih =>
    intro k i h1 h2
    obtain ⟨k, rfl⟩ : ∃ m, k = m + 1 := ⟨k - 1, by omega⟩
    have hb := hv i (by omega)
    have em : (bt s (i : Int) - 97) % 256 = bt s (i : Int) - 97 := by omega
    have ew : wrap64 ((i : Int) + 1) = ((i + 1 : Nat) : Int) := by rw [w64 (by omega) (by omega)]; omega
    have f := ih k (i + 1) (by omega) (by omega)
    simp only [spec_voCounts.l0, em, ew, List.length_cons, List.length_nil]
    rw [if_pos (by omega), if_pos (by omega), if_pos (by omega), if_pos (by omega)]
    simp only [cn] at f
    by_cases h0 : bt s (i : Int) - 97 = 0
    · simp only [h0, if_true, show ((0 : Int) = 1) = False by simp, show ((0 : Int) = 2) = False by simp, show ((0 : Int) = 3) = False by simp, if_false, Int.add_zero] at f ⊢
      rw [show rd [cn s 0 i, cn s 1 i, cn s 2 i, cn s 3 i] 0 = cn s 0 i from rfl, wcn s 0 i (by omega)]; exact f
    · by_cases h1 : bt s (i : Int) - 97 = 1
      · simp only [h1, if_true, show ((1 : Int) = 0) = False by simp, show ((1 : Int) = 2) = False by simp, show ((1 : Int) = 3) = False by simp, if_false, Int.add_zero] at f ⊢
        rw [show rd [cn s 0 i, cn s 1 i, cn s 2 i, cn s 3 i] 1 = cn s 1 i from rfl, wcn s 1 i (by omega)]; exact f
      · by_cases h2 : bt s (i : Int) - 97 = 2
        · simp only [h2, if_true, show ((2 : Int) = 0) = False by simp, show ((2 : Int) = 1) = False by simp, show ((2 : Int) = 3) = False by simp, if_false, Int.add_zero] at f ⊢
          rw [show rd [cn s 0 i, cn s 1 i, cn s 2 i, cn s 3 i] 2 = cn s 2 i from rfl, wcn s 2 i (by omega)]; exact f
        · have h3 : bt s (i : Int) - 97 = 3 := by omega
          simp only [h3, if_true, show ((3 : Int) = 0) = False by simp, show ((3 : Int) = 1) = False by simp, show ((3 : Int) = 2) = False by simp, if_false, Int.add_zero] at f ⊢
          rw [show rd [cn s 0 i, cn s 1 i, cn s 2 i, cn s 3 i] 3 = cn s 3 i from rfl, wcn s 3 i (by omega)]; exact f

theorem counts_eq (s : ByteArray) (hs : s.size ≤ 16) (hv : okV s) (k : Nat) (hk : s.size < k) : spec_voCounts.f k s = some [cn s 0 s.size, cn s 1 s.size, cn s 2 s.size, cn s 3 s.size] := by
  unfold spec_voCounts.f
  rw [if_pos (by decide)]
  exact counts_l s hs hv s.size k 0 (by omega) hk

theorem falls_eq (a b c d : Int) (k : Nat) (hk : 5 < k) : spec_voFalls.f k [a, b, c, d] = some (decide (a ≥ b ∧ b ≥ c ∧ c ≥ d)) := by
  obtain ⟨k, rfl⟩ : ∃ m, k = m + 4 := ⟨k - 4, by omega⟩
  unfold spec_voFalls.f
  have w0 : wrap64 (1 - 1) = 0 := by rw [w64 (by omega) (by omega)]; rfl
  have w1 : wrap64 (2 - 1) = 1 := by rw [w64 (by omega) (by omega)]; rfl
  have w2 : wrap64 (3 - 1) = 2 := by rw [w64 (by omega) (by omega)]; rfl
  have v1 : wrap64 (1 + 1) = 2 := by rw [w64 (by omega) (by omega)]; rfl
  have v2 : wrap64 (2 + 1) = 3 := by rw [w64 (by omega) (by omega)]; rfl
  have v3 : wrap64 (3 + 1) = 4 := by rw [w64 (by omega) (by omega)]; rfl
  have r0 : rd [a, b, c, d] 0 = a := rfl
  have r1 : rd [a, b, c, d] 1 = b := rfl
  have r2 : rd [a, b, c, d] 2 = c := rfl
  have r3 : rd [a, b, c, d] 3 = d := rfl
  have l4 : (([a, b, c, d] : List Int).length : Int) = 4 := rfl
  simp only [spec_voFalls.l0, l4, w0, w1, w2, v1, v2, v3, r0, r1, r2, r3]
  simp only [show ((1 : Int) < 4) = True by simp, show ((2 : Int) < 4) = True by simp, show ((3 : Int) < 4) = True by simp, show ((0 : Int) < 4) = True by simp, show ((4 : Int) < 4) = False by simp, show ((0 : Int) ≤ 0) = True by simp, show ((0 : Int) ≤ 1) = True by simp, show ((0 : Int) ≤ 2) = True by simp, show ((0 : Int) ≤ 3) = True by simp, if_true, if_false]
  by_cases h1 : a < b
  · rw [if_pos h1, decide_eq_false (by omega)]
  · rw [if_neg h1]
    by_cases h2 : b < c
    · rw [if_pos h2, decide_eq_false (by omega)]
    · rw [if_neg h2]
      by_cases h3 : c < d
      · rw [if_pos h3, decide_eq_false (by omega)]
      · rw [if_neg h3, decide_eq_true (by omega)]

theorem ordered_eq (a b c d : Int) : impl_tally_isOrdered.f a b c d = some (decide (a ≥ b ∧ b ≥ c ∧ c ≥ d)) := by
  unfold impl_tally_isOrdered.f
  by_cases h1 : a ≥ b
  · rw [if_pos h1]
    by_cases h2 : b ≥ c
    · rw [if_pos h2]; congr 1; rw [decide_eq_decide]; omega
    · rw [if_neg h2, decide_eq_false (by omega)]
  · rw [if_neg h1, decide_eq_false (by omega)]


/-- The first number of votes behind which they are not ordered, from i on, or -1. -/
def fo (s : ByteArray) : Nat → Nat → Int
  | 0, _ => -1
  | d + 1, i => if ordv s (i + 1) = true then fo s d (i + 1) else ((i + 1 : Nat) : Int)
theorem fo_succ (s : ByteArray) (d i : Nat) : fo s (d + 1) i = if ordv s (i + 1) = true then fo s d (i + 1) else ((i + 1 : Nat) : Int) := rfl
theorem fo_le (s : ByteArray) : ∀ d i : Nat, fo s d i = -1 ∨ (1 ≤ fo s d i ∧ fo s d i ≤ i + d)
  | 0, _ => .inl rfl
  | d + 1, i => by
    rw [fo_succ]; split
    · have := fo_le s d (i + 1); omega
    · right; omega

theorem pre_cn (s : ByteArray) (m : Nat) (hm : m ≤ s.size) (c : Int) : cn (s.extract 0 m) c (s.extract 0 m).size = cn s c m := by
  rw [size_pre s m hm]; exact cn_congr _ _ c m (fun j hj => bt_extract s m j hm hj)

theorem over_l (s : ByteArray) (hs : s.size ≤ 16) (hv : okV s) (d : Nat) : ∀ (k i : Nat), i + d = s.size → d + 20 < k → impl_overtaken.l0 k s (s.size : Int) (i : Int) = some (fo s d i) := by
  induction d with
  | zero =>
    intro k i h1 h2
    obtain ⟨k, rfl⟩ : ∃ m, k = m + 1 := ⟨k - 1, by omega⟩
    simp only [impl_overtaken.l0]
    rw [if_neg (by omega)]; first | done | rfl
  | succ d ih =>
    intro k i h1 h2
    obtain ⟨k, rfl⟩ : ∃ m, k = m + 1 := ⟨k - 1, by omega⟩
    have ew : wrap64 ((i : Int) + 1) = ((i + 1 : Nat) : Int) := by rw [w64 (by omega) (by omega)]; omega
    simp only [impl_overtaken.l0, ew, Int.toNat_natCast]
    rw [if_pos (by omega), if_pos (by omega), if_pos (by omega), tally_eq _ (by rw [size_pre s _ (by omega)]; omega) (okV_pre s hv _ (by omega)) k (by rw [size_pre s _ (by omega)]; omega)]
    simp only [Option.bind_some, pre_cn s (i + 1) (by omega)]
    rw [ordered_eq]
    simp only [Option.bind_some]
    rw [ih k (i + 1) (by omega) (by omega)]
    show (if ordv s (i + 1) = true then _ else _) = some (fo s (d + 1) i)
    rw [fo_succ]; split <;> rfl

theorem first_l (s : ByteArray) (hs : s.size ≤ 16) (hv : okV s) (d : Nat) : ∀ (k i : Nat), i + d = s.size → d + 20 < k → spec_voFirst.l0 k s ((i + 1 : Nat) : Int) = some (fo s d i) := by
  induction d with
  | zero =>
    intro k i h1 h2
    obtain ⟨k, rfl⟩ : ∃ m, k = m + 1 := ⟨k - 1, by omega⟩
    simp only [spec_voFirst.l0]
    rw [if_neg (by omega)]; first | done | rfl
  | succ d ih =>
    intro k i h1 h2
    obtain ⟨k, rfl⟩ : ∃ m, k = m + 1 := ⟨k - 1, by omega⟩
    have ew : wrap64 (((i + 1 : Nat) : Int) + 1) = ((i + 1 + 1 : Nat) : Int) := by rw [w64 (by omega) (by omega)]; omega
    simp only [spec_voFirst.l0, ew, Int.toNat_natCast]
    rw [if_pos (by omega), if_pos (by omega), counts_eq _ (by rw [size_pre s _ (by omega)]; omega) (okV_pre s hv _ (by omega)) k (by rw [size_pre s _ (by omega)]; omega)]
    simp only [Option.bind_some, pre_cn s (i + 1) (by omega)]
    rw [falls_eq _ _ _ _ k (by omega)]
    simp only [Option.bind_some]
    rw [ih k (i + 1) (by omega) (by omega)]
    show (if ordv s (i + 1) = true then _ else _) = some (fo s (d + 1) i)
    rw [fo_succ]; split <;> rfl

theorem over_eq (s : ByteArray) (hs : s.size ≤ 16) (hv : okV s) (k : Nat) (hk : 40 < k) : impl_overtaken.f k s = some (fo s s.size 0) := over_l s hs hv s.size k 0 (by omega) (by omega)
theorem first_eq (s : ByteArray) (hs : s.size ≤ 16) (hv : okV s) (k : Nat) (hk : 40 < k) : spec_voFirst.f k s = some (fo s s.size 0) := first_l s hs hv s.size k 0 (by omega) (by omega)

/-- Are the votes ordered all along? -/
def ordAll (s : ByteArray) : Bool := decide (fo s s.size 0 < 0)
theorem areOrd_eq (s : ByteArray) (hs : s.size ≤ 140737488351232) (k : Nat) (hk : 60 < k) : impl_areOrderedVotes.f k s = some ((decide (s.size ≤ 16) && isV s) && ordAll s) := by
  unfold impl_areOrderedVotes.f
  rw [areVotes_eq s hs]
  by_cases h : s.size ≤ 16 ∧ isV s = true
  · have hc : (decide (s.size ≤ 16) && isV s) = true := by simp [h]
    have hv : okV s := (isV_bt s).mp h.2
    rw [hc]
    simp only [Option.bind_some, if_true]
    rw [over_eq s h.1 hv k (by omega)]
    rfl
  · have hc : (decide (s.size ≤ 16) && isV s) = false := by
      cases hh : (decide (s.size ≤ 16) && isV s) with
      | false => rfl
      | true => exact absurd (by simpa using hh) h
    rw [hc]; rfl

theorem eqI_self (l : List Int) (hl : l.length ≤ 1048577) (k : Nat) (hk : l.length < k) : laws_eqIntS.f k l l = some true := by
  unfold laws_eqIntS.f
  rw [if_pos rfl]
  exact (loop_range (fun k (_ : Unit) i => laws_eqIntS.l0 k l l i) l.length (fun _ _ => ()) (fun _ => true) (fun _ _ => True)
    (fun k i _ hi _ => by
      refine ⟨?_, trivial⟩
      have e3 : wrap64 ((i : Int) + 1) = ((i + 1 : Nat) : Int) := by rw [w64 (by omega) (by omega)]; omega
      simp only [laws_eqIntS.l0, e3, if_true]
      repeat rw [if_pos (by omega)])
    (fun k _ _ => by simp only [laws_eqIntS.l0]; rw [if_neg (by omega)]) k () trivial hk).1


/-- What the marks are. -/
def Marked (a : Int) (n : Nat) (xs : List Int) : Prop := xs.length = n ∧ ∀ j : Nat, j < n → rd xs (j : Int) = a + j

theorem markI (l : List Int) (a : Int) (hl : l.length ≤ 1048577) (ha : 0 ≤ a) (ha' : a ≤ 1000000000000) (k : Nat) (hk : l.length < k) : ∃ xs, laws_markIntS.f k l a = some (a + l.length, xs) ∧ Marked a l.length xs := by
  unfold laws_markIntS.f
  have := loop_range (fun k (st : List Int × Int) i => laws_markIntS.l0 k st.1 st.2 i) l.length (fun st i => (st.1.set i st.2, st.2 + 1)) (fun st => (st.2, st.1)) (fun i st => st.1.length = l.length ∧ st.2 = a + i ∧ ∀ j : Nat, j < i → rd st.1 (j : Int) = a + j)
    (fun k i st hi hI => by
      obtain ⟨xs, x⟩ := st
      obtain ⟨h1, h2, h3⟩ := hI
      simp only at h1 h2 h3
      refine ⟨?_, ?_, ?_, ?_⟩
      · have e3 : wrap64 ((i : Int) + 1) = ((i + 1 : Nat) : Int) := by rw [w64 (by omega) (by omega)]; omega
        have e4 : wrap64 (x + 1) = x + 1 := w64 (by omega) (by omega)
        simp only [laws_markIntS.l0, e3, e4, Int.toNat_natCast]
        repeat rw [if_pos (by omega)]
      · simpa using h1
      · simp only; omega
      · intro j hj
        simp only
        by_cases e : j = i
        · subst e
          rw [rd_nat _ _ (by rw [List.length_set]; omega), List.getElem_set_self]; omega
        · rw [rd_nat _ _ (by rw [List.length_set]; omega), List.getElem_set_ne (by omega), ← rd_nat _ _ (by omega)]
          exact h3 j (by omega))
    (fun k st hI => by simp only [laws_markIntS.l0]; rw [if_neg (by omega)]) k (l, a) ⟨rfl, by simp, fun j hj => by omega⟩ hk
  obtain ⟨h1, h2⟩ := this
  refine ⟨_, ?_, h2.1, h2.2.2⟩
  rw [show laws_markIntS.l0 k l a 0 = _ from h1, h2.2.1]

theorem heldI (xs : List Int) (a : Int) (n : Nat) (hm : Marked a n xs) (hn : n ≤ 1048577) (ha : 0 ≤ a) (ha' : a ≤ 1000000000000) (k : Nat) (hk : n < k) : laws_heldIntS.f k xs a = some (a + n) := by
  unfold laws_heldIntS.f
  obtain ⟨h1, h2⟩ := hm
  have := loop_range (fun k (st : Int) i => laws_heldIntS.l0 k xs st i) n (fun st _ => st + 1) id (fun i st => st = a + i)
    (fun k i st hi hI => by
      subst hI
      refine ⟨?_, by omega⟩
      have e3 : wrap64 ((i : Int) + 1) = ((i + 1 : Nat) : Int) := by rw [w64 (by omega) (by omega)]; omega
      have e4 : wrap64 (a + i + 1) = a + i + 1 := w64 (by omega) (by omega)
      simp only [laws_heldIntS.l0, e3, e4, h2 i hi, if_true]
      repeat rw [if_pos (by omega)])
    (fun k st hI => by simp only [laws_heldIntS.l0]; rw [if_neg (by omega)]; rfl) k a (by simp) hk
  rw [this.1]
  exact congrArg some this.2

theorem rdL1_nat (xs : List (List Int)) (i : Nat) : rd_L1 xs (i : Int) = xs.getD i [] := by unfold rd_L1; rw [Int.toNat_natCast]

theorem getD_set_self (xs : List (List Int)) (i : Nat) (m : List Int) (h : i < xs.length) : (xs.set i m).getD i [] = m := by
  rw [List.getD_eq_getElem?_getD, List.getElem?_set_self h]; rfl
theorem getD_set_ne (xs : List (List Int)) (i j : Nat) (m : List Int) (h : i ≠ j) : (xs.set i m).getD j [] = xs.getD j [] := by
  rw [List.getD_eq_getElem?_getD, List.getElem?_set_ne h, ← List.getD_eq_getElem?_getD]
theorem eqSS_l (L : List (List Int)) (hL : L.length ≤ 1000) (hr : ∀ j : Nat, (L.getD j []).length ≤ 1000) (d : Nat) : ∀ (k i : Nat), i + d = L.length → d + 1001 < k → laws_eqIntSS.l0 k L L (i : Int) = some true := by
  induction d with
  | zero =>
    intro k i h1 h2
    obtain ⟨k, rfl⟩ : ∃ m, k = m + 1 := ⟨k - 1, by omega⟩
    simp only [laws_eqIntSS.l0]
    rw [if_neg (by omega)]
  | succ d ih =>
    intro k i h1 h2
    obtain ⟨k, rfl⟩ : ∃ m, k = m + 1 := ⟨k - 1, by omega⟩
    have e3 : wrap64 ((i : Int) + 1) = ((i + 1 : Nat) : Int) := by rw [w64 (by omega) (by omega)]; omega
    have := hr i
    simp only [laws_eqIntSS.l0, e3, rdL1_nat]
    rw [if_pos (by omega), if_pos (by omega), if_pos (by omega), eqI_self _ (by omega) k (by omega)]
    simp only [Option.bind_some, if_true]
    exact ih k (i + 1) (by omega) (by omega)
theorem eqSS_self (L : List (List Int)) (hL : L.length ≤ 1000) (hr : ∀ j : Nat, (L.getD j []).length ≤ 1000) (k : Nat) (hk : 3000 < k) : laws_eqIntSS.f k L L = some true := by
  unfold laws_eqIntSS.f
  rw [if_pos rfl]
  exact eqSS_l L hL hr L.length k 0 (by omega) (by omega)

/-- How many numbers stand in the rows before row i. -/
def pre (L : List (List Int)) : Nat → Nat
  | 0 => 0
  | i + 1 => pre L i + (L.getD i []).length
theorem pre_le (L : List (List Int)) (hr : ∀ j : Nat, (L.getD j []).length ≤ 1000) : ∀ i : Nat, pre L i ≤ 1000 * i
  | 0 => Nat.le_refl _
  | i + 1 => by have := pre_le L hr i; have := hr i; simp only [pre]; omega

theorem markSS_l (L : List (List Int)) (hL : L.length ≤ 1000) (hr : ∀ j : Nat, (L.getD j []).length ≤ 1000) (d : Nat) : ∀ (k i : Nat) (xs : List (List Int)), i + d = L.length → d + 1001 < k → xs.length = L.length → (∀ j : Nat, i ≤ j → xs.getD j [] = L.getD j []) →
    (∀ j : Nat, j < i → Marked (1 + (pre L j : Int)) (L.getD j []).length (xs.getD j [])) →
    ∃ ys, laws_markIntSS.l0 k xs (1 + (pre L i : Int)) (i : Int) = some (1 + (pre L L.length : Int), ys) ∧ ys.length = L.length ∧ ∀ j : Nat, j < L.length → Marked (1 + (pre L j : Int)) (L.getD j []).length (ys.getD j []) := by
  induction d with
  | zero =>
    intro k i xs h1 h2 h3 h4 h5
    obtain ⟨k, rfl⟩ : ∃ m, k = m + 1 := ⟨k - 1, by omega⟩
    obtain rfl : i = L.length := by omega
    simp only [laws_markIntSS.l0]
    rw [if_neg (by omega)]
    exact ⟨xs, rfl, h3, h5⟩
  | succ d ih =>
    intro k i xs h1 h2 h3 h4 h5
    obtain ⟨k, rfl⟩ : ∃ m, k = m + 1 := ⟨k - 1, by omega⟩
    have e3 : wrap64 ((i : Int) + 1) = ((i + 1 : Nat) : Int) := by rw [w64 (by omega) (by omega)]; omega
    have b1 := pre_le L hr i
    have b2 := hr i
    obtain ⟨ms, m1, m2⟩ := markI (L.getD i []) (1 + (pre L i : Int)) (by omega) (by omega) (by omega) k (by omega)
    simp only [laws_markIntSS.l0, e3, rdL1_nat, h4 i (Nat.le_refl _)]
    rw [if_pos (by omega), if_pos (by omega), m1]
    simp only [Option.bind_some, Int.toNat_natCast]
    have e5 : 1 + (pre L i : Int) + ((L.getD i []).length : Int) = 1 + (pre L (i + 1) : Int) := by simp only [pre]; omega
    rw [e5]
    refine ih k (i + 1) (xs.set i ms) (by omega) (by omega) (by rw [List.length_set]; exact h3) (fun j hj => ?_) (fun j hj => ?_)
    · rw [getD_set_ne _ _ _ _ (by omega)]
      exact h4 j (by omega)
    · by_cases e : j = i
      · subst e
        rw [getD_set_self _ _ _ (by omega)]
        exact m2
      · rw [getD_set_ne _ _ _ _ (by omega)]
        exact h5 j (by omega)
theorem markSS (L : List (List Int)) (hL : L.length ≤ 1000) (hr : ∀ j : Nat, (L.getD j []).length ≤ 1000) (k : Nat) (hk : 3000 < k) :
    ∃ ys, laws_markIntSS.f k L 1 = some (1 + (pre L L.length : Int), ys) ∧ ys.length = L.length ∧ ∀ j : Nat, j < L.length → Marked (1 + (pre L j : Int)) (L.getD j []).length (ys.getD j []) := by
  unfold laws_markIntSS.f
  exact markSS_l L hL hr L.length k 0 L (by omega) (by omega) rfl (fun _ _ => rfl) (fun j hj => by omega)

theorem heldSS_l (L ys : List (List Int)) (hL : L.length ≤ 1000) (hr : ∀ j : Nat, (L.getD j []).length ≤ 1000) (hy : ys.length = L.length) (hm : ∀ j : Nat, j < L.length → Marked (1 + (pre L j : Int)) (L.getD j []).length (ys.getD j [])) (d : Nat) :
    ∀ (k i : Nat), i + d = L.length → d + 1001 < k → laws_heldIntSS.l0 k ys (1 + (pre L i : Int)) (i : Int) = some (1 + (pre L L.length : Int)) := by
  induction d with
  | zero =>
    intro k i h1 h2
    obtain ⟨k, rfl⟩ : ∃ m, k = m + 1 := ⟨k - 1, by omega⟩
    obtain rfl : i = L.length := by omega
    simp only [laws_heldIntSS.l0]
    rw [if_neg (by omega)]
  | succ d ih =>
    intro k i h1 h2
    obtain ⟨k, rfl⟩ : ∃ m, k = m + 1 := ⟨k - 1, by omega⟩
    have e3 : wrap64 ((i : Int) + 1) = ((i + 1 : Nat) : Int) := by rw [w64 (by omega) (by omega)]; omega
    have b1 := pre_le L hr i
    have b2 := hr i
    simp only [laws_heldIntSS.l0, e3, rdL1_nat]
    rw [if_pos (by omega), if_pos (by omega), heldI _ _ _ (hm i (by omega)) (by omega) (by omega) (by omega) k (by omega)]
    simp only [Option.bind_some]
    rw [if_neg (by omega)]
    have e5 : 1 + (pre L i : Int) + ((L.getD i []).length : Int) = 1 + (pre L (i + 1) : Int) := by simp only [pre]; omega
    rw [e5]
    exact ih k (i + 1) (by omega) (by omega)
theorem heldSS (L ys : List (List Int)) (hL : L.length ≤ 1000) (hr : ∀ j : Nat, (L.getD j []).length ≤ 1000) (hy : ys.length = L.length) (hm : ∀ j : Nat, j < L.length → Marked (1 + (pre L j : Int)) (L.getD j []).length (ys.getD j [])) (k : Nat) (hk : 3000 < k) :
    laws_heldIntSS.f k ys 1 = some (1 + (pre L L.length : Int)) := by
  unfold laws_heldIntSS.f
  exact heldSS_l L ys hL hr hy hm L.length k 0 (by omega) (by omega)

theorem tail1 (k : Nat) (hk : 1050000 < k) (L ys : List (List Int)) (hL : L.length ≤ 1000) (hr : ∀ j : Nat, (L.getD j []).length ≤ 1000) (hy : ys.length = L.length) (hm : ∀ j : Nat, j < L.length → Marked (1 + (pre L j : Int)) (L.getD j []).length (ys.getD j [])) : laws_FnExactTableOfVotes.j1 (k + 1) ys (1 + (pre L L.length : Int)) false = some true := by
  simp only [laws_FnExactTableOfVotes.j1]
  rw [if_neg (by decide), heldSS L ys hL hr hy hm k (by omega)]
  simp only [Option.bind_some]
  rw [if_neg (by omega)]
  first | rfl | simp

theorem tail0 (k : Nat) (hk : 1050000 < k) (x0 : ByteArray) (L : List (List Int)) (b : Bool) (hL : L.length ≤ 1000) (hr : ∀ j : Nat, (L.getD j []).length ≤ 1000) (hi : ∀ k, 1050000 < k → impl_TableOfVotes.f k x0 = some (L, b)) : laws_FnExactTableOfVotes.j0 (k + 2) x0 L b L false = some true := by
  simp only [laws_FnExactTableOfVotes.j0]
  rw [if_neg (by decide)]
  obtain ⟨ys, h1, h2, h3⟩ := markSS L hL hr (k + 1) (by omega)
  rw [h1]
  simp only [Option.bind_some]
  rw [heldSS L ys hL hr h2 h3 (k + 1) (by omega)]
  simp only [Option.bind_some]
  rw [if_neg (by omega)]
  simp only [if_true]
  rw [hi (k + 1) (by omega)]
  simp only [Option.bind_some]
  rw [eqSS_self L hL hr (k + 1) (by omega)]
  simp only [Option.bind_some, if_true]
  rw [show (b != b) = false by cases b <;> rfl]
  exact tail1 k hk L ys hL hr h2 h3

/-- The candidate whom vote i names, from 0 on. -/
def cand (s : ByteArray) (i : Nat) : Nat := (bt s (i : Int) - 97).toNat
/-- The table of the first votes. -/
def tb (s : ByteArray) : Nat → List (List Int)
  | 0 => [[], [], [], []]
  | i + 1 => (tb s i).set (cand s i) ((tb s i).getD (cand s i) [] ++ [((i + 1 : Nat) : Int)])
theorem tb_length (s : ByteArray) : ∀ i : Nat, (tb s i).length = 4
  | 0 => rfl
  | i + 1 => by simp only [tb, List.length_set]; exact tb_length s i
theorem tb_row (s : ByteArray) : ∀ i j : Nat, ((tb s i).getD j []).length ≤ i
  | 0, j => by
    match j with
    | 0 => exact Nat.le_refl _
    | 1 => exact Nat.le_refl _
    | 2 => exact Nat.le_refl _
    | 3 => exact Nat.le_refl _
    | j + 4 => exact Nat.le_refl _
  | i + 1, j => by
    simp only [tb]
    by_cases e : cand s i = j
    · subst e
      by_cases hl : cand s i < (tb s i).length
      · rw [getD_set_self _ _ _ hl, List.length_append]
        have := tb_row s i (cand s i)
        simp only [List.length_cons, List.length_nil]; omega
      · rw [List.set_eq_of_length_le (by omega)]
        have := tb_row s i (cand s i); omega
    · rw [getD_set_ne _ _ _ _ e]
      have := tb_row s i j; omega
theorem cand_eq (s : ByteArray) (hv : okV s) (i : Nat) (hi : i < s.size) : (bt s (i : Int) - 97) % 256 = (cand s i : Int) ∧ cand s i < 4 := by
  have := hv i hi
  unfold cand
  omega
theorem impl_tb (s : ByteArray) (hs : s.size ≤ 16) (hv : okV s) (d : Nat) : ∀ (k i : Nat), i + d = s.size → d < k → impl_TableOfVotes.l0 k s (tb s i) (s.size : Int) (i : Int) = some (tb s s.size, true) := by
  induction d with
  | zero =>
    intro k i h1 h2
    obtain ⟨k, rfl⟩ : ∃ m, k = m + 1 := ⟨k - 1, by omega⟩
    obtain rfl : i = s.size := by omega
    simp only [impl_TableOfVotes.l0]
    rw [if_neg (by omega)]
  | succ d ih =>
    intro k i h1 h2
    obtain ⟨k, rfl⟩ : ∃ m, k = m + 1 := ⟨k - 1, by omega⟩
    have e3 : wrap64 ((i : Int) + 1) = ((i + 1 : Nat) : Int) := by rw [w64 (by omega) (by omega)]; omega
    obtain ⟨c1, c2⟩ := cand_eq s hv i (by omega)
    have r1 := tb_row s i (cand s i)
    have r2 := tb_length s i
    simp only [impl_TableOfVotes.l0, e3, c1, rdL1_nat, Int.toNat_natCast]
    rw [if_pos (by omega), if_pos (by omega), if_pos (by omega), if_pos (by omega), if_pos (by omega), if_pos (by omega)]
    exact ih k (i + 1) (by omega) (by omega)
theorem spec_tb (s : ByteArray) (hs : s.size ≤ 16) (hv : okV s) (d : Nat) : ∀ (k i : Nat), i + d = s.size → d < k → spec_TableOfVotes.l0 k s (tb s i) (i : Int) = some (tb s s.size, true) := by
  induction d with
  | zero =>
    intro k i h1 h2
    obtain ⟨k, rfl⟩ : ∃ m, k = m + 1 := ⟨k - 1, by omega⟩
    obtain rfl : i = s.size := by omega
    simp only [spec_TableOfVotes.l0]
    rw [if_neg (by omega)]
  | succ d ih =>
    intro k i h1 h2
    obtain ⟨k, rfl⟩ : ∃ m, k = m + 1 := ⟨k - 1, by omega⟩
    have e3 : wrap64 ((i : Int) + 1) = ((i + 1 : Nat) : Int) := by rw [w64 (by omega) (by omega)]; omega
    obtain ⟨c1, c2⟩ := cand_eq s hv i (by omega)
    have r1 := tb_row s i (cand s i)
    have r2 := tb_length s i
    simp only [spec_TableOfVotes.l0, e3, c1, rdL1_nat, Int.toNat_natCast]
    rw [if_pos (by omega), if_pos (by omega), if_pos (by omega), if_pos (by omega), if_pos (by omega)]
    exact ih k (i + 1) (by omega) (by omega)
theorem both (s : ByteArray) (hs : s.size ≤ 140737488351232) : ∃ (L : List (List Int)) (b : Bool), L.length ≤ 1000 ∧ (∀ j : Nat, (L.getD j []).length ≤ 1000) ∧ (∀ k, 100 < k → spec_TableOfVotes.f k s = some (L, b)) ∧ ∀ k, 100 < k → impl_TableOfVotes.f k s = some (L, b) := by
  by_cases h : s.size ≤ 16 ∧ isV s = true
  · have hc : (decide (s.size ≤ 16) && isV s) = true := by simp [h]
    have hv : okV s := (isV_bt s).mp h.2
    by_cases ho : fo s s.size 0 < 0
    · refine ⟨tb s s.size, true, by rw [tb_length]; omega, fun j => by have := tb_row s s.size j; omega, fun k hk => ?_, fun k hk => ?_⟩
      · obtain ⟨k, rfl⟩ : ∃ m, k = m + 1 := ⟨k - 1, by omega⟩
        unfold spec_TableOfVotes.f
        rw [voGood_eq s _ (by omega), hc]
        simp only [Option.bind_some, if_true]
        rw [first_eq s h.1 hv _ (by omega)]
        simp only [Option.bind_some, spec_TableOfVotes.j0]
        rw [decide_eq_false (by omega), if_neg (by decide), if_pos (by omega)]
        exact spec_tb s h.1 hv s.size k 0 (by omega) (by omega)
      · unfold impl_TableOfVotes.f
        rw [areOrd_eq s hs k (by omega), hc]
        unfold ordAll
        rw [decide_eq_true ho]
        simp only [Option.bind_some, Bool.and_self, if_true]
        rw [if_pos (by omega)]
        exact impl_tb s h.1 hv s.size k 0 (by omega) (by omega)
    · refine ⟨[], false, by simp, by simp, fun k hk => ?_, fun k hk => ?_⟩
      · obtain ⟨k, rfl⟩ : ∃ m, k = m + 1 := ⟨k - 1, by omega⟩
        unfold spec_TableOfVotes.f
        rw [voGood_eq s _ (by omega), hc]
        simp only [Option.bind_some, if_true]
        rw [first_eq s h.1 hv _ (by omega)]
        simp only [Option.bind_some, spec_TableOfVotes.j0]
        rw [decide_eq_true (by omega), if_pos rfl]
      · unfold impl_TableOfVotes.f
        rw [areOrd_eq s hs k (by omega), hc]
        unfold ordAll
        rw [decide_eq_false ho]
        rfl
  · have hc : (decide (s.size ≤ 16) && isV s) = false := by
      cases hh : (decide (s.size ≤ 16) && isV s) with
      | false => rfl
      | true => exact absurd (by simpa using hh) h
    refine ⟨[], false, by simp, by simp, fun k hk => ?_, fun k hk => ?_⟩
    · obtain ⟨k, rfl⟩ : ∃ m, k = m + 1 := ⟨k - 1, by omega⟩
      unfold spec_TableOfVotes.f; rw [voGood_eq s _ (by omega), hc]; simp [spec_TableOfVotes.j0]
    · unfold impl_TableOfVotes.f; rw [areOrd_eq s hs k (by omega), hc]; rfl
theorem FnExactTableOfVotes : laws_FnExactTableOfVotes.Pure := by
  intro s hs
  obtain ⟨L, b, hL, hr, h1, h2⟩ := both s hs
  refine ⟨1050010, ?_⟩
  unfold laws_FnExactTableOfVotes.f
  by_cases hbig : (s.size : Int) > 1048576
  · rw [if_pos hbig]
  · rw [if_neg hbig, h1 _ (by omega)]
    simp only [Option.bind_some]
    rw [h2 _ (by omega)]
    simp only [Option.bind_some]
    rw [eqSS_self L hL hr _ (by omega)]
    simp only [Option.bind_some, if_true]
    rw [show (b != b) = false by cases b <;> rfl]
    exact tail0 1050008 (by omega) s L b hL hr (fun k hk => h2 k (by omega))

end Go.Proofs.YtfjpejdlgmlmhaaDoor.PuqFnExactTableOfVotes
namespace Go.Proofs.YtfjpejdlgmlmhaaDoor.Pure
open Go.Proofs.YtfjpejdlgmlmhaaDoor.QFnExactTableOfVotes
theorem FnExactTableOfVotes : laws_FnExactTableOfVotes.Pure := Go.Proofs.YtfjpejdlgmlmhaaDoor.PuqFnExactTableOfVotes.FnExactTableOfVotes
end Go.Proofs.YtfjpejdlgmlmhaaDoor.Pure
