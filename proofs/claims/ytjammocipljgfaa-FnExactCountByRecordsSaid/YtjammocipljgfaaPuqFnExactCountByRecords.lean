/- The program's CountByRecords returns what the reference's returns, for all arguments (no condition). -/
import Derived.Test.YtjammocipljgfaaQFnExactCountByRecordsx3
namespace Go.Proofs.Ytjammocipljgfaa.Pure
open Go.RowKit Go.Proofs.Ytjammocipljgfaa.QFnExactCountByRecords Go.Proofs.YtjammocipljgfaaW.PrintWords Go.Proofs.YtjammocipljgfaaW.PrintLast

/-- YOURS: ∀ (a0 : Int), (Lit.int .i64 a0).wf = true → ∃ k, laws_FnExactCountByRecords.f k a0 = some true
What it reaches (each with k first where it has rounds; `.mono`: more rounds tell the same; `.l0`, ..: its loops, with `.mono_l`): laws_eqIntS.f, laws_markIntS.f, laws_heldIntS.f, spec_l1In.f, spec_reGood.f, spec_CountByRecords.f, impl_in.f, impl_isPairs.f, impl_choose.f, impl_leading.f, impl_CountByHighest.f, impl_CountByRecords.f, laws_FnExactCountByRecords.f -/
theorem in_cases (a : Int) (h0 : 0 ≤ a) (h1 : a ≤ 15) : a = 0 ∨ a = 1 ∨ a = 2 ∨ a = 3 ∨ a = 4 ∨ a = 5 ∨ a = 6 ∨ a = 7 ∨ a = 8 ∨ a = 9 ∨ a = 10 ∨ a = 11 ∨ a = 12 ∨ a = 13 ∨ a = 14 ∨ a = 15 := by
  omega

theorem FnExactCountByRecords : laws_FnExactCountByRecords.Pure := by
  intro a _
  by_cases h : 0 ≤ a ∧ a ≤ 15
  · refine ⟨8000, ?_⟩
    obtain h | h | h | h | h | h | h | h | h | h | h | h | h | h | h | h := in_cases a h.1 h.2 <;> subst h <;> kernel_rfl
  · refine ⟨9, ?_⟩
    have e1 : spec_l1In.f a 0 15 = some false := by
      unfold spec_l1In.f
      by_cases h0 : a ≥ 0
      · rw [if_pos h0]; have : ¬ a ≤ 15 := fun h1 => h ⟨h0, h1⟩
        simp [this]
      · rw [if_neg h0]
    have e2 : impl_in.f a 0 15 = some false := by
      unfold impl_in.f
      by_cases h0 : 0 ≤ a
      · rw [if_pos h0]; have : ¬ a ≤ 15 := fun h1 => h ⟨h0, h1⟩
        simp [this]
      · rw [if_neg h0]
    have e3 : ∀ k, spec_CountByRecords.f k a = some (([] : List Int), false) := fun k => by simp [spec_CountByRecords.f, spec_reGood.f, e1]
    have e4 : ∀ k, impl_CountByRecords.f k a = some (([] : List Int), false) := fun k => by simp [impl_CountByRecords.f, impl_isPairs.f, e2]
    simp [laws_FnExactCountByRecords.f, laws_FnExactCountByRecords.j0, laws_FnExactCountByRecords.j1, e3, e4, laws_eqIntS.f, laws_eqIntS.l0, laws_markIntS.f, laws_markIntS.l0, laws_heldIntS.f, laws_heldIntS.l0]

end Go.Proofs.Ytjammocipljgfaa.Pure
