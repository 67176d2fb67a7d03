/- The program's CountGoodClosed returns what the reference's returns, for all arguments (no condition). -/
import Derived.Test.YtjammocipljgfaaPFnExactCountGoodClosedx2
namespace Go.Proofs.Ytjammocipljgfaa.Pure
open Go.RowKit Go.Proofs.Ytjammocipljgfaa.PFnExactCountGoodClosed Go.Proofs.YtjammocipljgfaaW.PrintWords Go.Proofs.YtjammocipljgfaaW.PrintLast

/-- YOURS: ∀ (a0 : Int), (Lit.int .i64 a0).wf = true → ∃ k, laws_FnExactCountGoodClosed.f k a0 = some true
What it reaches (each with k first where it has rounds; `.mono`: more rounds tell the same; `.l0`, ..: its loops, with `.mono_l`): spec_l1In.f, spec_reGood.f, spec_l1Least.f, spec_paChoose.f, spec_reCatalan.f, spec_CountGoodClosed.f, impl_in.f, impl_isPairs.f, impl_choose.f, impl_catalan.f, impl_CountGoodClosed.f, laws_FnExactCountGoodClosed.f -/
theorem in_cases (a : Int) (h0 : 0 ≤ a) (h1 : a ≤ 15) : a = 0 ∨ a = 1 ∨ a = 2 ∨ a = 3 ∨ a = 4 ∨ a = 5 ∨ a = 6 ∨ a = 7 ∨ a = 8 ∨ a = 9 ∨ a = 10 ∨ a = 11 ∨ a = 12 ∨ a = 13 ∨ a = 14 ∨ a = 15 := by
  omega

theorem FnExactCountGoodClosed : laws_FnExactCountGoodClosed.Pure := by
  intro a _
  by_cases h : 0 ≤ a ∧ a ≤ 15
  · refine ⟨5000, ?_⟩
    obtain h | h | h | h | h | h | h | h | h | h | h | h | h | h | h | h := in_cases a h.1 h.2 <;> subst h <;> decide +kernel
  · refine ⟨1, ?_⟩
    have e1 : spec_l1In.f a 0 15 = some false := by
      unfold spec_l1In.f
      by_cases h0 : a ≥ 0
      · rw [if_pos h0]; have : ¬ a ≤ 15 := fun h1 => h ⟨h0, h1⟩
        simp [this]
      · rw [if_neg h0]
    have e2 : impl_in.f a 0 15 = some false := by
      unfold impl_in.f
      by_cases h0 : 0 ≤ a
      · rw [if_pos h0]; have : ¬ a ≤ 15 := fun h1 => h ⟨h0, h1⟩
        simp [this]
      · rw [if_neg h0]
    simp [laws_FnExactCountGoodClosed.f, spec_CountGoodClosed.f, impl_CountGoodClosed.f, spec_reGood.f, impl_isPairs.f, e1, e2]

end Go.Proofs.Ytjammocipljgfaa.Pure
