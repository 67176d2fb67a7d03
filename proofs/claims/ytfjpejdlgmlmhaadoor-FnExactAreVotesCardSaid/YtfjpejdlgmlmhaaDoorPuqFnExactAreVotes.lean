/- The program's AreVotes returns what the reference's returns, for all arguments (no condition). -/
import Derived.Test.YtfjpejdlgmlmhaaDoorQFnExactAreVotesx1
import Derived.Test.YtfjpejdlgmlmhaaDoorZpl
namespace Go.Proofs.YtfjpejdlgmlmhaaDoor.PuqFnExactAreVotes
open Go.RowKit Go.Proofs.YtfjpejdlgmlmhaaDoor.QFnExactAreVotes Go.Proofs.YtfjpejdlgmlmhaaDoorW.PrintWords Go.Proofs.YtfjpejdlgmlmhaaDoorW.PrintLast Go.Proofs.YtfjpejdlgmlmhaaDoorPl
set_option linter.unusedVariables false

/-- Is every byte one of a, b, c, d? -/
def isV (s : ByteArray) : Bool := s.data.toList.all fun b => decide (97 ≤ b.toNat ∧ b.toNat ≤ 100)

theorem isV_bt (s : ByteArray) : isV s = true ↔ ∀ i : Nat, i < s.size → 97 ≤ bt s (i : Int) ∧ bt s (i : Int) ≤ 100 := by
  unfold isV
  rw [List.all_eq_true]
  constructor
  · intro h i hi
    have := h (s[i]'hi) (by rw [show s[i]'hi = s.data.toList[i]'(by simpa using hi) from rfl]; exact List.getElem_mem _)
    unfold bt; rw [dif_pos (by simpa using hi)]
    simp only [decide_eq_true_eq] at this
    simp only [Int.toNat_natCast]
    omega
  · intro h b hb
    obtain ⟨i, hi, rfl⟩ := List.mem_iff_getElem.mp hb
    have hi' : i < s.size := by simpa using hi
    have h1 := h i hi'
    unfold bt at h1; rw [dif_pos (by simpa using hi')] at h1
    simp only [Int.toNat_natCast] at h1
    have h2 : s[i]'hi' = s.data.toList[i]'hi := rfl
    rw [h2] at h1
    simp only [decide_eq_true_eq]
    omega

theorem voGood_l (s : ByteArray) (hn : s.size ≤ 1048576) (d : Nat) : ∀ (k i : Nat), i + d = s.size → d < k → spec_voGood.l0 k s (i : Int) = some ((List.range' i d).all fun j => decide (97 ≤ bt s (j : Int) ∧ bt s (j : Int) ≤ 100)) := by
  induction d with
  | zero =>
    intro k i h1 h2
    obtain ⟨k, rfl⟩ : ∃ m, k = m + 1 := ⟨k - 1, by omega⟩
    simp only [spec_voGood.l0]
    rw [if_neg (by omega)]
    rfl
  | succ d ih =>
    intro k i h1 h2
    obtain ⟨k, rfl⟩ : ∃ m, k = m + 1 := ⟨k - 1, by omega⟩
    simp only [spec_voGood.l0]
    rw [if_pos (by omega), if_pos (by omega), w64 (by omega) (by omega), show ((i : Int) + 1) = ((i + 1 : Nat) : Int) by omega, ih k (i + 1) (by omega) (by omega), List.range'_succ, List.all_cons]
    by_cases h' : bt s (i : Int) < 97
    · rw [if_pos h', decide_eq_false (by omega), Bool.false_and]
    · rw [if_neg h']
      by_cases h : bt s (i : Int) > 100
      · rw [if_pos h, decide_eq_false (by omega), Bool.false_and]
      · rw [if_neg h, decide_eq_true (by omega), Bool.true_and]

theorem voGood_eq (s : ByteArray) (k : Nat) (hk : 17 < k) : spec_voGood.f k s = some (decide (s.size ≤ 16) && isV s) := by
  unfold spec_voGood.f
  by_cases h : s.size ≤ 16
  · rw [if_neg (by omega)]
    have := voGood_l s (by omega) s.size k 0 (by omega) (by omega)
    rw [show ((0 : Nat) : Int) = 0 from rfl] at this
    rw [this]
    congr 1
    rw [Bool.eq_iff_iff, List.all_eq_true]
    simp only [decide_eq_true_eq, Bool.and_eq_true]
    rw [isV_bt]
    exact ⟨fun H => ⟨h, fun i hi => H i (by rw [List.mem_range'_1]; omega)⟩, fun H i hi => H.2 i (by rw [List.mem_range'_1] at hi; omega)⟩
  · rw [if_pos (by omega)]
    simp [h]

theorem areVotes_eq (s : ByteArray) (hs : s.size ≤ 140737488351232) : impl_AreVotes.f s = some (decide (s.size ≤ 16) && isV s) := by
  unfold impl_AreVotes.f
  by_cases h : s.size ≤ 16
  · rw [if_pos (by omega)]
    unfold impl_isMade.f strings_Trim.f
    rw [if_pos (by omega), if_pos (by decide), if_pos (by decide)]
    simp only [Option.bind_some, Option.some.injEq]
    rw [trim_eq]
    simp only [h, decide_true, Bool.true_and]
    unfold isV
    congr 1
    funext b
    rw [Bool.eq_iff_iff]
    simp only [decide_eq_true_eq]
    have e : ∀ n : Fin 256, (([97, 98, 99, 100] : List UInt8).contains (UInt8.ofNat n.val) = true ↔ (97 ≤ n.val ∧ n.val ≤ 100)) := by decide +kernel
    have e' := e ⟨b.toNat, b.toNat_lt⟩
    rw [UInt8.ofNat_toNat] at e'
    exact e'
  · rw [if_neg (by omega)]
    simp [h]

theorem FnExactAreVotes : laws_FnExactAreVotes.Pure := by
  intro s hs
  refine ⟨100, ?_⟩
  unfold laws_FnExactAreVotes.f spec_AreVotes.f
  rw [voGood_eq s 100 (by omega), areVotes_eq s hs]
  by_cases hbig : (s.size : Int) > 1048576
  · rw [if_pos hbig]
  · rw [if_neg hbig]; simp

end Go.Proofs.YtfjpejdlgmlmhaaDoor.PuqFnExactAreVotes
namespace Go.Proofs.YtfjpejdlgmlmhaaDoor.Pure
open Go.Proofs.YtfjpejdlgmlmhaaDoor.QFnExactAreVotes
theorem FnExactAreVotes : laws_FnExactAreVotes.Pure := Go.Proofs.YtfjpejdlgmlmhaaDoor.PuqFnExactAreVotes.FnExactAreVotes
end Go.Proofs.YtfjpejdlgmlmhaaDoor.Pure
