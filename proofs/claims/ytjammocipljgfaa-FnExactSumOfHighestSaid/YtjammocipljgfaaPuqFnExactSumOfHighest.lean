/- The program's SumOfHighest returns what the reference's returns, for all arguments (no condition). -/
import Derived.Test.YtjammocipljgfaaQFnExactSumOfHighestx2
import Derived.Test.YtjammocipljgfaaZpl
namespace Go.Proofs.Ytjammocipljgfaa.PuqFnExactSumOfHighest
open Go.RowKit Go.Proofs.Ytjammocipljgfaa.QFnExactSumOfHighest Go.Proofs.YtjammocipljgfaaW.PrintWords Go.Proofs.YtjammocipljgfaaW.PrintLast Go.Proofs.YtjammocipljgfaaPl
set_option linter.unusedVariables false

/-- One row of the table (u is fixed, d falls from d to 0): next: the row of u + 1. -/
def dpGo (n h u : Int) : Int → Int → List Int → List Int
  | _, _, [] => []
  | d, p, x :: xs => (if 0 ≤ wrap64 (u - d) ∧ wrap64 (u - d) ≤ h then (if u = n ∧ d = n then 1 else wrap64 (x + p)) else 0) :: dpGo n h u (d - 1) (if 0 ≤ wrap64 (u - d) ∧ wrap64 (u - d) ≤ h then (if u = n ∧ d = n then 1 else wrap64 (x + p)) else 0) xs
/-- The rows of u = n + 1, n, .. -/
def dpRows (n h : Int) (c : Nat) : Nat → List Int
  | 0 => List.replicate c 0
  | m + 1 => dpGo n h (n - m) n 0 (dpRows n h c m)
def dpVal (n h : Int) : Int := (dpRows n h (n.toNat + 1) (n.toNat + 1)).getD n.toNat 0
theorem dpGo_length (n h u : Int) : ∀ (xs : List Int) (d p : Int), (dpGo n h u d p xs).length = xs.length
  | [], _, _ => rfl
  | x :: xs, d, p => by rw [dpGo, List.length_cons, List.length_cons, dpGo_length n h u xs]
theorem in_some (a b c : Int) : impl_in.f a b c = some (decide (b ≤ a ∧ a ≤ c)) := by
  unfold impl_in.f
  by_cases h : b ≤ a
  · rw [if_pos h]; simp [h]
  · rw [if_neg h]; simp [h]
theorem g_step (n h u d a b : Int) (k : Nat) (hu : u ≤ n) (hd : d ≤ n) (hu1 : wrap64 (u + 1) = u + 1) (hd1 : wrap64 (d + 1) = d + 1) (ha : impl_between_2.g n n 0 h k (u + 1) d = some a) (hb : impl_between_2.g n n 0 h k u (d + 1) = some b) :
    impl_between_2.g n n 0 h (k + 1) u d = some (if 0 ≤ wrap64 (u - d) ∧ wrap64 (u - d) ≤ h then (if u = n ∧ d = n then 1 else wrap64 (a + b)) else 0) := by
  unfold impl_between_2.g
  rw [if_neg (Int.not_lt.mpr hu), if_neg (Int.not_lt.mpr hd), in_some, hu1, hd1, ha, hb]
  simp only [Option.bind_some, decide_eq_true_eq]
  by_cases e : 0 ≤ wrap64 (u - d) ∧ wrap64 (u - d) ≤ h
  · rw [if_pos e, if_pos e]
    by_cases e2 : u = n ∧ d = n
    · rw [if_pos e2, if_pos e2]
    · rw [if_neg e2, if_neg e2]
  · rw [if_neg e, if_neg e]
theorem go_ok (n h u : Int) (hn : n ≤ 15) (hu0 : 0 ≤ u) (hu : u ≤ n) : ∀ (xs : List Int) (d p : Int) (K : Nat), d ≤ n → (xs.length : Int) ≤ d + 1 → (∀ k, K ≤ k → impl_between_2.g n n 0 h k u (d + 1) = some p) →
    (∀ (j : Nat) (hj : j < xs.length) (k : Nat), K + j ≤ k → impl_between_2.g n n 0 h k (u + 1) (d - j) = some xs[j]) → ∀ (j : Nat) (hj : j < (dpGo n h u d p xs).length) (k : Nat), K + j + 1 ≤ k → impl_between_2.g n n 0 h k u (d - j) = some (dpGo n h u d p xs)[j]
  | [], d, p, K, _, _, _, _ => fun j hj => by simp [dpGo] at hj
  | x :: xs, d, p, K, hd, hl, hp, hx => by
    rw [List.length_cons] at hl
    have w1 : wrap64 (u + 1) = u + 1 := w64 (by omega) (by omega)
    have w2 : wrap64 (d + 1) = d + 1 := w64 (by omega) (by omega)
    have hv : ∀ k, K + 1 ≤ k → impl_between_2.g n n 0 h k u d = some (if 0 ≤ wrap64 (u - d) ∧ wrap64 (u - d) ≤ h then (if u = n ∧ d = n then 1 else wrap64 (x + p)) else 0) := by
      intro k hk
      obtain ⟨k, rfl⟩ : ∃ m, k = m + 1 := ⟨k - 1, by omega⟩
      have h0 := hx 0 (by rw [List.length_cons]; omega) k (by omega)
      have e0 : d - ((0 : Nat) : Int) = d := by omega
      rw [e0] at h0
      exact g_step n h u d x p k hu hd w1 w2 h0 (hp k (by omega))
    intro j hj k hk
    cases j with
    | zero =>
      have e0 : d - ((0 : Nat) : Int) = d := by omega
      rw [e0]
      simp only [dpGo, List.getElem_cons_zero]
      exact hv k (by omega)
    | succ j =>
      have e0 : d - ((j + 1 : Nat) : Int) = (d - 1) - (j : Int) := by omega
      rw [e0]
      simp only [dpGo, List.getElem_cons_succ]
      refine go_ok n h u hn hu0 hu xs (d - 1) _ (K + 1) (by omega) (by omega) (fun k hk => ?_) (fun j' hj' k hk => ?_) j (by simpa [dpGo] using hj) k (by omega)
      · have e1 : d - 1 + 1 = d := by omega
        rw [e1]; exact hv k hk
      · have e1 : d - 1 - (j' : Int) = d - ((j' + 1 : Nat) : Int) := by omega
        rw [e1]
        have := hx (j' + 1) (by rw [List.length_cons]; omega) k (by omega)
        rwa [List.getElem_cons_succ] at this
theorem rows_ok (n : Nat) (h : Int) (hn : n ≤ 15) : ∀ m : Nat, m ≤ n + 1 → (dpRows n h (n + 1) m).length = n + 1 ∧ ∀ (j : Nat) (hj : j < (dpRows n h (n + 1) m).length) (k : Nat), m + 1 + j ≤ k → impl_between_2.g n n 0 h k ((n : Int) + 1 - m) ((n : Int) - j) = some (dpRows n h (n + 1) m)[j]
  | 0, _ => by
    refine ⟨by simp [dpRows], fun j hj k hk => ?_⟩
    obtain ⟨k, rfl⟩ : ∃ m, k = m + 1 := ⟨k - 1, by omega⟩
    unfold impl_between_2.g
    rw [if_pos (by omega)]
    simp [dpRows]
  | m + 1, hm => by
    obtain ⟨h1, h2⟩ := rows_ok n h hn m (by omega)
    refine ⟨by rw [dpRows, dpGo_length, h1], fun j hj k hk => ?_⟩
    have e0 : (n : Int) + 1 - ((m + 1 : Nat) : Int) = (n : Int) - (m : Int) := by omega
    rw [e0]
    refine go_ok n h ((n : Int) - m) (by omega) (by omega) (by omega) (dpRows n h (n + 1) m) n 0 (m + 1) (by omega) (by rw [h1]; omega) (fun k hk => ?_) (fun j hj k hk => ?_) j hj k (by omega)
    · obtain ⟨k, rfl⟩ : ∃ m, k = m + 1 := ⟨k - 1, by omega⟩
      unfold impl_between_2.g
      rw [if_neg (by omega), if_pos (by omega)]
    · have e1 : (n : Int) - (m : Int) + 1 = (n : Int) + 1 - (m : Int) := by omega
      rw [e1]; exact h2 j hj k hk
theorem dpVal_eq (n : Nat) (h : Int) (hn : n ≤ 15) : impl_between_2.g n n 0 h 62 0 0 = some (dpVal n h) := by
  obtain ⟨h1, h2⟩ := rows_ok n h hn (n + 1) (Nat.le_refl _)
  have := h2 n (by omega) 62 (by omega)
  have e1 : (n : Int) + 1 - ((n + 1 : Nat) : Int) = 0 := by omega
  have e2 : (n : Int) - (n : Int) = 0 := by omega
  rw [e1, e2] at this
  rw [this]
  unfold dpVal
  rw [Int.toNat_natCast, List.getD_eq_getElem?_getD, List.getElem?_eq_getElem (by omega)]
  rfl
/-- How many good closed paths of n pairs have the greatest height h. -/
def dpBy (n h : Int) : Int := wrap64 (dpVal n h - dpVal n (wrap64 (h - 1)))
theorem byHeight_eq (n h : Int) (h0 : 0 ≤ n) (hn : n ≤ 15) (k : Nat) : impl_byHeight.f k n h = some (dpBy n h) := by
  obtain ⟨m, rfl⟩ : ∃ m : Nat, n = m := ⟨n.toNat, by omega⟩
  unfold impl_byHeight.f
  rw [dpVal_eq m h (by omega), dpVal_eq m _ (by omega)]
  rfl
theorem in_cases (a : Int) (h0 : 0 ≤ a) (h1 : a ≤ 15) : a = 0 ∨ a = 1 ∨ a = 2 ∨ a = 3 ∨ a = 4 ∨ a = 5 ∨ a = 6 ∨ a = 7 ∨ a = 8 ∨ a = 9 ∨ a = 10 ∨ a = 11 ∨ a = 12 ∨ a = 13 ∨ a = 14 ∨ a = 15 := by
  omega
theorem outside (a : Int) (h : ¬ (0 ≤ a ∧ a ≤ 15)) : spec_reGood.f a = some false ∧ impl_isPairs.f a = some false := by
  constructor
  · unfold spec_reGood.f spec_l1In.f
    by_cases h0 : a ≥ 0
    · rw [if_pos h0]; have : ¬ a ≤ 15 := fun h1 => h ⟨h0, h1⟩
      simp [this]
    · rw [if_neg h0]; rfl
  · unfold impl_isPairs.f impl_in.f
    by_cases h0 : 0 ≤ a
    · rw [if_pos h0]; have : ¬ a ≤ 15 := fun h1 => h ⟨h0, h1⟩
      simp [this]
    · rw [if_neg h0]; rfl

/-- impl.SumOfHighest's loop, over the table. -/
def sumL : Nat → Int → Int → Int → Int → Option (Int × Bool)
  | 0, _, _, _, _ => none
  | k + 1, x0, x4, x10, x11 => if x11 < x10 then sumL k x0 (wrap64 (x4 + (wrap64 (x11 * dpBy x0 x11)))) x10 (wrap64 (x11 + 1)) else some (x4, true)
theorem sumL_eq (n : Int) (h0 : 0 ≤ n) (hn : n ≤ 15) : ∀ (k : Nat) (x4 x10 x11 : Int), impl_SumOfHighest.l0 k n x4 x10 x11 = sumL k n x4 x10 x11
  | 0, _, _, _ => rfl
  | k + 1, x4, x10, x11 => by
    rw [impl_SumOfHighest.l0, sumL, byHeight_eq n x11 h0 hn k]
    simp only [Option.bind_some]
    rw [sumL_eq n h0 hn k]
def chk (n : Int) : Bool := match spec_SumOfHighest.f 5000 n, sumL 5000 n 0 (wrap64 (n + 1)) 0 with
  | some (a, true), some (b, true) => decide (b = a)
  | _, _ => false
theorem chk_all : chk 0 = true ∧ chk 1 = true ∧ chk 2 = true ∧ chk 3 = true ∧ chk 4 = true ∧ chk 5 = true ∧ chk 6 = true ∧ chk 7 = true ∧ chk 8 = true ∧ chk 9 = true ∧ chk 10 = true ∧ chk 11 = true ∧ chk 12 = true ∧ chk 13 = true ∧ chk 14 = true ∧ chk 15 = true := by
  refine ⟨?_, ?_, ?_, ?_, ?_, ?_, ?_, ?_, ?_, ?_, ?_, ?_, ?_, ?_, ?_, ?_⟩ <;> kernel_rfl
theorem FnExactSumOfHighest : laws_FnExactSumOfHighest.Pure := by
  intro a _
  by_cases h : 0 ≤ a ∧ a ≤ 15
  · refine ⟨5000, ?_⟩
    have hc : chk a = true := by
      obtain ⟨c0, c1, c2, c3, c4, c5, c6, c7, c8, c9, c10, c11, c12, c13, c14, c15⟩ := chk_all
      obtain e | e | e | e | e | e | e | e | e | e | e | e | e | e | e | e := in_cases a h.1 h.2 <;> subst e <;> assumption
    have hp : impl_isPairs.f a = some true := by
      unfold impl_isPairs.f
      rw [in_some]
      simp [h]
    have hi : impl_SumOfHighest.f 5000 a = sumL 5000 a 0 (wrap64 (a + 1)) 0 := by
      unfold impl_SumOfHighest.f
      rw [hp]
      simp only [Option.bind_some, if_true]
      exact sumL_eq a h.1 h.2 5000 _ _ _
    unfold chk at hc
    unfold laws_FnExactSumOfHighest.f
    rw [hi]
    cases h1 : spec_SumOfHighest.f 5000 a with
    | none => rw [h1] at hc; cases hc
    | some r1 =>
      cases h2 : sumL 5000 a 0 (wrap64 (a + 1)) 0 with
      | none =>
        rw [h1, h2] at hc
        obtain ⟨x, y⟩ := r1
        cases y <;> cases hc
      | some r2 =>
        rw [h1, h2] at hc
        obtain ⟨x, y⟩ := r1
        obtain ⟨x', y'⟩ := r2
        cases y <;> cases y' <;> first | (cases hc; done) | skip
        simp only [decide_eq_true_eq] at hc
        subst hc
        simp
  · obtain ⟨h1, h2⟩ := outside a h
    refine ⟨9, ?_⟩
    simp [laws_FnExactSumOfHighest.f, spec_SumOfHighest.f, impl_SumOfHighest.f, h1, h2]

end Go.Proofs.Ytjammocipljgfaa.PuqFnExactSumOfHighest
namespace Go.Proofs.Ytjammocipljgfaa.Pure
open Go.Proofs.Ytjammocipljgfaa.QFnExactSumOfHighest
theorem FnExactSumOfHighest : laws_FnExactSumOfHighest.Pure := Go.Proofs.Ytjammocipljgfaa.PuqFnExactSumOfHighest.FnExactSumOfHighest
end Go.Proofs.Ytjammocipljgfaa.Pure
