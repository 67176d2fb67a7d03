/- The program's IsDesk returns what the reference's returns, for all arguments (no condition). -/
import Derived.Test.YtdnmiljhgdkloaaDoorQFnExactIsDeskx1
import Derived.Test.YtdnmiljhgdkloaaDoorZpl
namespace Go.Proofs.YtdnmiljhgdkloaaDoor.PuqFnExactIsDesk
open Go.RowKit Go.Proofs.YtdnmiljhgdkloaaDoor.QFnExactIsDesk Go.Proofs.YtdnmiljhgdkloaaDoorW.PrintWords Go.Proofs.YtdnmiljhgdkloaaDoorW.PrintLast Go.Proofs.YtdnmiljhgdkloaaDoorPl
set_option linter.unusedVariables false

theorem paGood_l (s : ByteArray) (hn : s.size ≤ 1048576) (d : Nat) : ∀ (k i : Nat), i + d = s.size → d < k → spec_paGood.l0 k s (i : Int) = some ((List.range' i d).all fun j => decide (bt s (j : Int) = 85 ∨ bt s (j : Int) = 68)) := by
  induction d with
  | zero =>
    intro k i h1 h2
    obtain ⟨k, rfl⟩ : ∃ m, k = m + 1 := ⟨k - 1, by omega⟩
    simp only [spec_paGood.l0]
    rw [if_neg (by omega)]
    rfl
  | succ d ih =>
    intro k i h1 h2
    obtain ⟨k, rfl⟩ : ∃ m, k = m + 1 := ⟨k - 1, by omega⟩
    simp only [spec_paGood.l0]
    rw [if_pos (by omega), if_pos (by omega), w64 (by omega) (by omega), show ((i : Int) + 1) = ((i + 1 : Nat) : Int) by omega, ih k (i + 1) (by omega) (by omega), List.range'_succ, List.all_cons]
    by_cases h' : bt s (i : Int) = 85
    · rw [if_pos h', decide_eq_true (.inl h'), Bool.true_and]
    · rw [if_neg h']
      by_cases h : bt s (i : Int) = 68
      · rw [if_pos h, decide_eq_true (.inr h), Bool.true_and]
      · rw [if_neg h, decide_eq_false (fun H => H.elim h' h), Bool.false_and]

theorem paGood_eq (s : ByteArray) (k : Nat) (hk : 41 < k) : spec_paGood.f k s = some (decide (s.size ≤ 40) && isP s) := by
  unfold spec_paGood.f
  by_cases h : s.size ≤ 40
  · rw [if_neg (by omega)]
    have := paGood_l s (by omega) s.size k 0 (by omega) (by omega)
    rw [show ((0 : Nat) : Int) = 0 from rfl] at this
    rw [this]
    congr 1
    rw [Bool.eq_iff_iff, List.all_eq_true]
    simp only [decide_eq_true_eq, Bool.and_eq_true]
    rw [all_of_bt]
    exact ⟨fun H => ⟨h, fun i hi => H i (by rw [List.mem_range'_1]; omega)⟩, fun H i hi => H.2 i (by rw [List.mem_range'_1] at hi; omega)⟩
  · rw [if_pos (by omega)]
    simp [h]

theorem isPath_eq (s : ByteArray) (hs : s.size ≤ 140737488351232) : impl_IsPath.f s = some (decide (s.size ≤ 40) && isP s) := by
  unfold impl_IsPath.f
  by_cases h : s.size ≤ 40
  · rw [if_pos (by omega)]
    unfold strings_Trim.f
    rw [if_pos (by omega), if_pos (by decide), if_pos (by decide)]
    simp only [Option.bind_some, Option.some.injEq]
    rw [trim_eq]
    simp only [h, decide_true, Bool.true_and]
    unfold isP
    congr 1
    funext b
    rw [Bool.eq_iff_iff]
    simp
  · rw [if_neg (by omega)]
    simp [h]

theorem FnExactIsDesk : laws_FnExactIsDesk.Pure := by
  intro s t hs ht
  refine ⟨100, ?_⟩
  unfold laws_FnExactIsDesk.f
  have hz : laws_szDesk.f s t 1048576 = some (if wrap64 (1048576 - (s.size : Int)) < 0 then -1 else if wrap64 (wrap64 (1048576 - (s.size : Int)) - (t.size : Int)) < 0 then -1 else wrap64 (wrap64 (1048576 - (s.size : Int)) - (t.size : Int))) := by
    unfold laws_szDesk.f; split
    · rfl
    · split <;> rfl
  rw [hz]
  simp only [Option.bind_some, laws_toDesk.f, spec_IsDesk.f, spec_coGood.f, impl_IsDesk.f, paGood_eq s 100 (by omega), paGood_eq t 100 (by omega), isPath_eq s hs, isPath_eq t ht]
  generalize (if wrap64 (1048576 - (s.size : Int)) < 0 then (-1 : Int) else if wrap64 (wrap64 (1048576 - (s.size : Int)) - (t.size : Int)) < 0 then -1 else wrap64 (wrap64 (1048576 - (s.size : Int)) - (t.size : Int))) = z
  generalize (decide (s.size ≤ 40) && isP s) = b
  generalize (decide (t.size ≤ 40) && isP t) = c
  by_cases h : z < 0
  · rw [if_pos h]
  · rw [if_neg h]; cases b <;> cases c <;> rfl

end Go.Proofs.YtdnmiljhgdkloaaDoor.PuqFnExactIsDesk
namespace Go.Proofs.YtdnmiljhgdkloaaDoor.Pure
open Go.Proofs.YtdnmiljhgdkloaaDoor.QFnExactIsDesk
theorem FnExactIsDesk : laws_FnExactIsDesk.Pure := Go.Proofs.YtdnmiljhgdkloaaDoor.PuqFnExactIsDesk.FnExactIsDesk
end Go.Proofs.YtdnmiljhgdkloaaDoor.Pure
