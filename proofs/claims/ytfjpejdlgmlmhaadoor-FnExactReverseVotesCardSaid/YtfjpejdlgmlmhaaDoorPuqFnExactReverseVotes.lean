/- For every text: ReverseVotes of the program and of the reference answer alike. -/
import Derived.Test.YtfjpejdlgmlmhaaDoorQFnExactReverseVotesx1
import Derived.Test.YtfjpejdlgmlmhaaDoorZpl
namespace Go.Proofs.YtfjpejdlgmlmhaaDoor.PuqFnExactReverseVotes
open Go.RowKit Go.Proofs.YtfjpejdlgmlmhaaDoor.QFnExactReverseVotes Go.Proofs.YtfjpejdlgmlmhaaDoorW.PrintWords Go.Proofs.YtfjpejdlgmlmhaaDoorW.PrintLast Go.Proofs.YtfjpejdlgmlmhaaDoorPl
set_option linter.unusedVariables false

/-- Is every byte one of a, b, c, d? -/
def isV (s : ByteArray) : Bool := s.data.toList.all fun b => decide (97 ≤ b.toNat ∧ b.toNat ≤ 100)

theorem isV_bt (s : ByteArray) : isV s = true ↔ ∀ i : Nat, i < s.size → 97 ≤ bt s (i : Int) ∧ bt s (i : Int) ≤ 100 := by
  unfold isV
  rw [List.all_eq_true]
  constructor
  · intro h i hi
    have := h (s[i]'hi) (by rw [show s[i]'hi = s.data.toList[i]'(by simpa using hi) from rfl]; exact List.getElem_mem _)
    unfold bt; rw [dif_pos (by simpa using hi)]
    simp only [decide_eq_true_eq] at this
    simp only [Int.toNat_natCast]
    omega
  · intro h b hb
    obtain ⟨i, hi, rfl⟩ := List.mem_iff_getElem.mp hb
    have hi' : i < s.size := by simpa using hi
    have h1 := h i hi'
    unfold bt at h1; rw [dif_pos (by simpa using hi')] at h1
    simp only [Int.toNat_natCast] at h1
    have h2 : s[i]'hi' = s.data.toList[i]'hi := rfl
    rw [h2] at h1
    simp only [decide_eq_true_eq]
    omega

theorem voGood_l (s : ByteArray) (hn : s.size ≤ 1048576) (d : Nat) : ∀ (k i : Nat), i + d = s.size → d < k → spec_voGood.l0 k s (i : Int) = some ((List.range' i d).all fun j => decide (97 ≤ bt s (j : Int) ∧ bt s (j : Int) ≤ 100)) := by
  induction d with
  | zero =>
    intro k i h1 h2
    obtain ⟨k, rfl⟩ : ∃ m, k = m + 1 := ⟨k - 1, by omega⟩
    simp only [spec_voGood.l0]
    rw [if_neg (by omega)]
    rfl
  | succ d ih =>
    intro k i h1 h2
    obtain ⟨k, rfl⟩ : ∃ m, k = m + 1 := ⟨k - 1, by omega⟩
    simp only [spec_voGood.l0]
    rw [if_pos (by omega), if_pos (by omega), w64 (by omega) (by omega), show ((i : Int) + 1) = ((i + 1 : Nat) : Int) by omega, ih k (i + 1) (by omega) (by omega), List.range'_succ, List.all_cons]
    by_cases h' : bt s (i : Int) < 97
    · rw [if_pos h', decide_eq_false (by omega), Bool.false_and]
    · rw [if_neg h']
      by_cases h : bt s (i : Int) > 100
      · rw [if_pos h, decide_eq_false (by omega), Bool.false_and]
      · rw [if_neg h, decide_eq_true (by omega), Bool.true_and]

theorem voGood_eq (s : ByteArray) (k : Nat) (hk : 17 < k) : spec_voGood.f k s = some (decide (s.size ≤ 16) && isV s) := by
  unfold spec_voGood.f
  by_cases h : s.size ≤ 16
  · rw [if_neg (by omega)]
    have := voGood_l s (by omega) s.size k 0 (by omega) (by omega)
    rw [show ((0 : Nat) : Int) = 0 from rfl] at this
    rw [this]
    congr 1
    rw [Bool.eq_iff_iff, List.all_eq_true]
    simp only [decide_eq_true_eq, Bool.and_eq_true]
    rw [isV_bt]
    exact ⟨fun H => ⟨h, fun i hi => H i (by rw [List.mem_range'_1]; omega)⟩, fun H i hi => H.2 i (by rw [List.mem_range'_1] at hi; omega)⟩
  · rw [if_pos (by omega)]
    simp [h]

theorem areVotes_eq (s : ByteArray) (hs : s.size ≤ 140737488351232) : impl_AreVotes.f s = some (decide (s.size ≤ 16) && isV s) := by
  unfold impl_AreVotes.f
  by_cases h : s.size ≤ 16
  · rw [if_pos (by omega)]
    unfold impl_isMade.f strings_Trim.f
    rw [if_pos (by omega), if_pos (by decide), if_pos (by decide)]
    simp only [Option.bind_some, Option.some.injEq]
    rw [trim_eq]
    simp only [h, decide_true, Bool.true_and]
    unfold isV
    congr 1
    funext b
    rw [Bool.eq_iff_iff]
    simp only [decide_eq_true_eq]
    have e : ∀ n : Fin 256, (([97, 98, 99, 100] : List UInt8).contains (UInt8.ofNat n.val) = true ↔ (97 ≤ n.val ∧ n.val ≤ 100)) := by decide +kernel
    have e' := e ⟨b.toNat, b.toNat_lt⟩
    rw [UInt8.ofNat_toNat] at e'
    exact e'
  · rw [if_neg (by omega)]
    simp [h]

theorem rd_getD (xs : List Int) (i : Nat) : rd xs (i : Int) = xs.getD i 0 := by unfold rd; rw [Int.toNat_natCast]
theorem gS (xs : List Int) (i j : Nat) (v : Int) (h : i < xs.length) : (xs.set i v).getD j 0 = if i = j then v else xs.getD j 0 := by
  rw [List.getD_eq_getElem?_getD, List.getElem?_set]
  by_cases e : i = j
  · rw [if_pos e, if_pos h, if_pos e]; rfl
  · rw [if_neg e, if_neg e, List.getD_eq_getElem?_getD]
theorem getD_get (xs : List Int) (j : Nat) (h : j < xs.length) : xs.getD j 0 = xs[j] := by
  rw [List.getD_eq_getElem?_getD, List.getElem?_eq_getElem h]; rfl
/-- The first i and the last i are changed over. -/
def chg (L : List Int) (i : Nat) (xs : List Int) : Prop :=
  xs.length = L.length ∧ ∀ j : Nat, j < L.length → xs.getD j 0 = if j < i ∨ L.length - 1 - j < i then L.getD (L.length - 1 - j) 0 else L.getD j 0
theorem chg_end (L xs : List Int) (i : Nat) (h : chg L i xs) (hi : L.length ≤ 2 * i + 1) : xs = L.reverse := by
  obtain ⟨h1, h2⟩ := h
  refine List.ext_getElem (by rw [List.length_reverse]; exact h1) fun j ha hb => ?_
  rw [List.getElem_reverse, ← getD_get xs j ha, ← getD_get L _ (by omega), h2 j (by omega)]
  by_cases c : j < i ∨ L.length - 1 - j < i
  · rw [if_pos c]
  · rw [if_neg c]
    have : j = L.length - 1 - j := by omega
    rw [← this]
theorem chg_step (L xs : List Int) (i : Nat) (h : chg L i xs) (hi : 2 * i + 2 ≤ L.length) : chg L (i + 1) ((xs.set i (rd xs ((L.length - 1 - i : Nat) : Int))).set (L.length - 1 - i) (rd xs (i : Int))) := by
  obtain ⟨h1, h2⟩ := h
  refine ⟨by rw [List.length_set, List.length_set]; exact h1, fun j hj => ?_⟩
  rw [gS _ _ _ _ (by rw [List.length_set]; omega), gS _ _ _ _ (by omega), rd_getD, rd_getD, h2 i (by omega), h2 (L.length - 1 - i) (by omega), h2 j hj]
  rw [if_neg (show ¬ (i < i ∨ L.length - 1 - i < i) by omega), if_neg (show ¬ (L.length - 1 - i < i ∨ L.length - 1 - (L.length - 1 - i) < i) by omega)]
  by_cases e1 : L.length - 1 - i = j
  · rw [if_pos e1, if_pos (show j < i + 1 ∨ L.length - 1 - j < i + 1 by omega), show L.length - 1 - j = i by omega]
  · rw [if_neg e1]
    by_cases e2 : i = j
    · rw [if_pos e2, if_pos (show j < i + 1 ∨ L.length - 1 - j < i + 1 by omega), ← e2]
    · rw [if_neg e2]
      by_cases c : j < i ∨ L.length - 1 - j < i
      · rw [if_pos c, if_pos (show j < i + 1 ∨ L.length - 1 - j < i + 1 by omega)]
      · rw [if_neg c, if_neg (show ¬ (j < i + 1 ∨ L.length - 1 - j < i + 1) by omega)]
theorem rv_a1 (i : Nat) (h : i ≤ 100) : wrap64 ((i : Int) + 1) = ((i + 1 : Nat) : Int) := by rw [w64 (by omega) (by omega)]; omega
theorem rv_a2 (n i : Nat) (h : n ≤ 100) (hi : 2 * i + 2 ≤ n) : wrap64 (((n - 1 - i : Nat) : Int) - 1) = ((n - 1 - (i + 1) : Nat) : Int) := by rw [w64 (by omega) (by omega)]; omega
theorem rv_a3 (n i : Nat) (hi : 2 * i + 2 ≤ n) : (i : Int) < ((n - 1 - i : Nat) : Int) := by omega
theorem rv_a4 (n i m : Nat) (h : m = n) (hi : 2 * i + 2 ≤ n) : ((n - 1 - i : Nat) : Int) < (m : Int) := by omega
theorem rv_a5 (n i m : Nat) (h : m = n) (hi : 2 * i + 2 ≤ n) : (i : Int) < (m : Int) := by omega
theorem rv_a6 (n i : Nat) (hi : n ≤ 2 * i + 1) : ¬ (i : Int) < ((n - 1 - i : Nat) : Int) := by omega
theorem rev_l (L : List Int) (hn : L.length ≤ 100) (d : Nat) : ∀ (k i : Nat) (xs : List Int), L.length ≤ 2 * i + 1 + 2 * d → d < k → chg L i xs → slices_Reverse_byte_byte.l0 k xs (i : Int) ((L.length - 1 - i : Nat) : Int) = some L.reverse := by
  induction d with
  | zero =>
    intro k i xs h1 h2 h3
    obtain ⟨k, rfl⟩ : ∃ m, k = m + 1 := ⟨k - 1, by omega⟩
    simp only [slices_Reverse_byte_byte.l0]
    rw [if_neg (rv_a6 L.length i (by omega)), chg_end L xs i h3 (by omega)]
  | succ d ih =>
    intro k i xs h1 h2 h3
    obtain ⟨k, rfl⟩ : ∃ m, k = m + 1 := ⟨k - 1, by omega⟩
    by_cases c : L.length ≤ 2 * i + 1
    · simp only [slices_Reverse_byte_byte.l0]
      rw [if_neg (rv_a6 L.length i c), chg_end L xs i h3 c]
    · have c' : 2 * i + 2 ≤ L.length := by omega
      have f := ih k (i + 1) _ (by omega) (by omega) (chg_step L xs i h3 c')
      simp only [slices_Reverse_byte_byte.l0, Int.toNat_natCast]
      rw [if_pos (rv_a3 L.length i c'), if_pos (Int.natCast_nonneg _), if_pos (rv_a4 L.length i xs.length h3.1 c'), if_pos (Int.natCast_nonneg _), if_pos (rv_a5 L.length i xs.length h3.1 c'), rv_a1 i (by omega), rv_a2 L.length i hn c']
      exact f
theorem rev_eq (L : List Int) (hn : L.length ≤ 100) (k : Nat) (hk : 200 < k) : slices_Reverse_byte_byte.f k L = some L.reverse := by
  unfold slices_Reverse_byte_byte.f
  by_cases h0 : L.length = 0
  · have e : L = [] := List.length_eq_zero_iff.mp h0
    subst e
    obtain ⟨k, rfl⟩ : ∃ m, k = m + 1 := ⟨k - 1, by omega⟩
    have e : wrap64 (((([] : List Int).length : Nat) : Int) - 1) = -1 := by rw [w64 (by simp) (by simp)]; rfl
    rw [e]
    simp only [slices_Reverse_byte_byte.l0]
    rw [if_neg (by decide)]; rfl
  · have e : wrap64 ((L.length : Int) - 1) = ((L.length - 1 - 0 : Nat) : Int) := by rw [w64 (by omega) (by omega)]; omega
    rw [e]
    refine rev_l L hn 100 k 0 L (by omega) (by omega) ⟨rfl, fun j hj => ?_⟩
    rw [if_neg (show ¬ (j < 0 ∨ L.length - 1 - j < 0) by omega)]
theorem str_snoc' (l : List Int) (x : Int) : strOfNums (l ++ [x]) = strOfNums l ++ strOfNums [x] := by
  apply ByteArray.ext
  rw [ByteArray.data_append]
  apply Array.ext'
  simp [strOfNums]
theorem ext_one (s : ByteArray) (c : Nat) (h : c < (bytesOf s).length) : s.extract c (c + 1) = strOfNums [(bytesOf s)[c]] := by
  apply ByteArray.ext
  apply Array.ext'
  have hl : c < s.data.toList.length := by unfold bytesOf at h; simpa using h
  rw [ByteArray.data_extract, Array.toList_extract, List.extract_eq_take_drop, show c + 1 - c = 1 by omega, List.drop_eq_getElem_cons hl, strOfNums_data]
  simp [bytesOf]
theorem sp_l (s : ByteArray) (hs : s.size ≤ 100) (c : Nat) : ∀ k : Nat, c ≤ s.size → c < k → spec_ReverseVotes.l0 k s (strOfNums ((bytesOf s).drop c).reverse) ((c : Int) - 1) = some (strOfNums (bytesOf s).reverse, true) := by
  have hb : (bytesOf s).length = s.size := bytesOf_length s
  induction c with
  | zero =>
    intro k h1 h2
    obtain ⟨k, rfl⟩ : ∃ m, k = m + 1 := ⟨k - 1, by omega⟩
    simp only [spec_ReverseVotes.l0]
    rw [if_neg (by decide)]; rfl
  | succ c ih =>
    intro k h1 h2
    obtain ⟨k, rfl⟩ : ∃ m, k = m + 1 := ⟨k - 1, by omega⟩
    have e1 : ((c + 1 : Nat) : Int) - 1 = (c : Int) := by omega
    have e2 : wrap64 ((c : Int) + 1) = ((c + 1 : Nat) : Int) := by rw [w64 (by omega) (by omega)]; omega
    have e3 : wrap64 ((c : Int) - 1) = (c : Int) - 1 := w64 (by omega) (by omega)
    have q1 : (c : Int) ≥ 0 := Int.natCast_nonneg c
    have q2 : (c : Int) ≤ ((c + 1 : Nat) : Int) := by omega
    have q3 : ((c + 1 : Nat) : Int) ≤ (s.size : Int) := by omega
    have hc : c < (bytesOf s).length := by omega
    have ex := ext_one s c hc
    have e4 : strOfNums ((bytesOf s).drop (c + 1)).reverse ++ strOfNums [(bytesOf s)[c]] = strOfNums ((bytesOf s).drop c).reverse := by
      rw [← str_snoc', List.drop_eq_getElem_cons hc, List.reverse_cons]
    have q4 : (strOfNums ((bytesOf s).drop (c + 1)).reverse).size + (strOfNums [(bytesOf s)[c]]).size ≤ 9223372036854775807 := by
      rw [strOfNums_size, strOfNums_size, List.length_reverse, List.length_drop, List.length_singleton]; omega
    rw [e1]
    simp only [spec_ReverseVotes.l0, e2, e3, Int.toNat_natCast, ex]
    rw [if_pos q1, if_pos q1, if_pos q2, if_pos q3, if_pos q4, e4]
    exact ih k (by omega) (by omega)
theorem both (s : ByteArray) (hs : s.size ≤ 140737488351232) : ∃ (L : ByteArray) (b : Bool), (∀ k, 300 < k → spec_ReverseVotes.f k s = some (L, b)) ∧ ∀ k, 300 < k → impl_ReverseVotes.f k s = some (L, b) := by
  have hb : (bytesOf s).length = s.size := bytesOf_length s
  by_cases h : s.size ≤ 16 ∧ isV s = true
  · have hc : (decide (s.size ≤ 16) && isV s) = true := by simp [h]
    refine ⟨strOfNums (bytesOf s).reverse, true, fun k hk => ?_, fun k hk => ?_⟩
    · unfold spec_ReverseVotes.f
      rw [voGood_eq s k (by omega), hc]
      simp only [Option.bind_some, if_true]
      have e : wrap64 ((s.size : Int) - 1) = (s.size : Int) - 1 := w64 (by omega) (by omega)
      rw [e]
      have f := sp_l s (by omega) s.size k (Nat.le_refl _) (by omega)
      rw [List.drop_eq_nil_of_le (by omega)] at f
      exact f
    · unfold impl_ReverseVotes.f
      rw [areVotes_eq s hs, hc]
      simp only [Option.bind_some, if_true]
      rw [if_pos (by omega), rev_eq (bytesOf s) (by omega) k (by omega)]
      rfl
  · have hc : (decide (s.size ≤ 16) && isV s) = false := by
      cases hh : (decide (s.size ≤ 16) && isV s) with
      | false => rfl
      | true => exact absurd (by simpa using hh) h
    refine ⟨⟨#[]⟩, false, fun k hk => ?_, fun k hk => ?_⟩
    · unfold spec_ReverseVotes.f; rw [voGood_eq s k (by omega), hc]; rfl
    · unfold impl_ReverseVotes.f; rw [areVotes_eq s hs, hc]; rfl
theorem FnExactReverseVotes : laws_FnExactReverseVotes.Pure := by
  intro s hs
  obtain ⟨L, b, h1, h2⟩ := both s hs
  refine ⟨400, ?_⟩
  unfold laws_FnExactReverseVotes.f
  by_cases hbig : (s.size : Int) > 1048576
  · rw [if_pos hbig]
  · rw [if_neg hbig, h1 _ (by omega)]
    simp only [Option.bind_some]
    rw [h2 _ (by omega)]
    simp

end Go.Proofs.YtfjpejdlgmlmhaaDoor.PuqFnExactReverseVotes
namespace Go.Proofs.YtfjpejdlgmlmhaaDoor.Pure
open Go.Proofs.YtfjpejdlgmlmhaaDoor.QFnExactReverseVotes
theorem FnExactReverseVotes : laws_FnExactReverseVotes.Pure := Go.Proofs.YtfjpejdlgmlmhaaDoor.PuqFnExactReverseVotes.FnExactReverseVotes
end Go.Proofs.YtfjpejdlgmlmhaaDoor.Pure
