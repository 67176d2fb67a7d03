/- The program's CountByHeight returns what the reference's returns, for all arguments (no condition). -/
import Derived.Test.YtjammocipljgfaaQFnExactCountByHeightx3
import Derived.Test.YtjammocipljgfaaZpl
namespace Go.Proofs.Ytjammocipljgfaa.PuqFnExactCountByHeight
open Go.RowKit Go.Proofs.Ytjammocipljgfaa.QFnExactCountByHeight Go.Proofs.YtjammocipljgfaaW.PrintWords Go.Proofs.YtjammocipljgfaaW.PrintLast Go.Proofs.YtjammocipljgfaaPl
set_option linter.unusedVariables false

theorem up {α : Type} (F : Nat → Option α) (hm : ∀ k, LeO (F k) (F (k + 1))) {k0 : Nat} {r : α} (h : F k0 = some r) : ∀ d, F (k0 + d) = some r
  | 0 => h
  | d + 1 => hm _ _ (up F hm h d)
theorem up' {α : Type} (F : Nat → Option α) (hm : ∀ k, LeO (F k) (F (k + 1))) {k0 : Nat} {r : α} (h : F k0 = some r) (k : Nat) (hk : k0 ≤ k) : F k = some r := by
  obtain ⟨d, rfl⟩ : ∃ d, k = k0 + d := ⟨k - k0, by omega⟩
  exact up F hm h d

theorem eqI_self (l : List Int) (hl : l.length ≤ 1048577) (k : Nat) (hk : l.length < k) : laws_eqIntS.f k l l = some true := by
  unfold laws_eqIntS.f
  rw [if_pos rfl]
  exact (loop_range (fun k (_ : Unit) i => laws_eqIntS.l0 k l l i) l.length (fun _ _ => ()) (fun _ => true) (fun _ _ => True)
    (fun k i _ hi _ => by
      refine ⟨?_, trivial⟩
      have e3 : wrap64 ((i : Int) + 1) = ((i + 1 : Nat) : Int) := by rw [w64 (by omega) (by omega)]; omega
      simp only [laws_eqIntS.l0, e3, if_true]
      repeat rw [if_pos (by omega)])
    (fun k _ _ => by simp only [laws_eqIntS.l0]; rw [if_neg (by omega)]) k () trivial hk).1


/-- What the marks are. -/
def Marked (a : Int) (n : Nat) (xs : List Int) : Prop := xs.length = n ∧ ∀ j : Nat, j < n → rd xs (j : Int) = a + j

theorem markI (l : List Int) (a : Int) (hl : l.length ≤ 1048577) (ha : 0 ≤ a) (ha' : a ≤ 1000000000000) (k : Nat) (hk : l.length < k) : ∃ xs, laws_markIntS.f k l a = some (a + l.length, xs) ∧ Marked a l.length xs := by
  unfold laws_markIntS.f
  have := loop_range (fun k (st : List Int × Int) i => laws_markIntS.l0 k st.1 st.2 i) l.length (fun st i => (st.1.set i st.2, st.2 + 1)) (fun st => (st.2, st.1)) (fun i st => st.1.length = l.length ∧ st.2 = a + i ∧ ∀ j : Nat, j < i → rd st.1 (j : Int) = a + j)
    (fun k i st hi hI => by
      obtain ⟨xs, x⟩ := st
      obtain ⟨h1, h2, h3⟩ := hI
      simp only at h1 h2 h3
      refine ⟨?_, ?_, ?_, ?_⟩
      · have e3 : wrap64 ((i : Int) + 1) = ((i + 1 : Nat) : Int) := by rw [w64 (by omega) (by omega)]; omega
        have e4 : wrap64 (x + 1) = x + 1 := w64 (by omega) (by omega)
        simp only [laws_markIntS.l0, e3, e4, Int.toNat_natCast]
        repeat rw [if_pos (by omega)]
      · simpa using h1
      · simp only; omega
      · intro j hj
        simp only
        by_cases e : j = i
        · subst e
          rw [rd_nat _ _ (by rw [List.length_set]; omega), List.getElem_set_self]; omega
        · rw [rd_nat _ _ (by rw [List.length_set]; omega), List.getElem_set_ne (by omega), ← rd_nat _ _ (by omega)]
          exact h3 j (by omega))
    (fun k st hI => by simp only [laws_markIntS.l0]; rw [if_neg (by omega)]) k (l, a) ⟨rfl, by simp, fun j hj => by omega⟩ hk
  obtain ⟨h1, h2⟩ := this
  refine ⟨_, ?_, h2.1, h2.2.2⟩
  rw [show laws_markIntS.l0 k l a 0 = _ from h1, h2.2.1]

theorem heldI (xs : List Int) (a : Int) (n : Nat) (hm : Marked a n xs) (hn : n ≤ 1048577) (ha : 0 ≤ a) (ha' : a ≤ 1000000000000) (k : Nat) (hk : n < k) : laws_heldIntS.f k xs a = some (a + n) := by
  unfold laws_heldIntS.f
  obtain ⟨h1, h2⟩ := hm
  have := loop_range (fun k (st : Int) i => laws_heldIntS.l0 k xs st i) n (fun st _ => st + 1) id (fun i st => st = a + i)
    (fun k i st hi hI => by
      subst hI
      refine ⟨?_, by omega⟩
      have e3 : wrap64 ((i : Int) + 1) = ((i + 1 : Nat) : Int) := by rw [w64 (by omega) (by omega)]; omega
      have e4 : wrap64 (a + i + 1) = a + i + 1 := w64 (by omega) (by omega)
      simp only [laws_heldIntS.l0, e3, e4, h2 i hi, if_true]
      repeat rw [if_pos (by omega)])
    (fun k st hI => by simp only [laws_heldIntS.l0]; rw [if_neg (by omega)]; rfl) k a (by simp) hk
  rw [this.1]
  exact congrArg some this.2

theorem tail1 (k : Nat) (hk : 1050000 < k) (x5 : List Int) (n : Nat) (hm : Marked 1 n x5) (hn : n ≤ 1048577) : laws_FnExactCountByHeight.j1 (k + 1) x5 (1 + (n : Int)) false = some true := by
  simp only [laws_FnExactCountByHeight.j1]
  rw [if_neg (by decide), heldI x5 1 n hm hn (by omega) (by omega) k (by omega)]
  simp only [Option.bind_some]
  rw [if_neg (by omega)]
  first | rfl | simp

theorem tail0 (k : Nat) (hk : 1050000 < k) (x0 : Int) (L : List Int) (b : Bool) (hL : L.length ≤ 1048577) (hi : ∀ k, 1050000 < k → impl_CountByHeight.f k x0 = some (L, b)) : laws_FnExactCountByHeight.j0 (k + 2) x0 L b L false = some true := by
  simp only [laws_FnExactCountByHeight.j0]
  rw [if_neg (by decide)]
  obtain ⟨xs, h1, h2⟩ := markI L 1 hL (by omega) (by omega) (k + 1) (by omega)
  rw [h1]
  simp only [Option.bind_some]
  rw [heldI xs 1 L.length h2 hL (by omega) (by omega) (k + 1) (by omega)]
  simp only [Option.bind_some]
  rw [if_neg (by omega)]
  simp only [if_true]
  rw [hi (k + 1) (by omega)]
  simp only [Option.bind_some]
  rw [eqI_self L hL (k + 1) (by omega)]
  simp only [Option.bind_some, if_true]
  rw [show (b != b) = false by cases b <;> rfl]
  exact tail1 k hk xs L.length h2 hL

/-- One row of the table (u is fixed, d falls from d to 0): next: the row of u + 1. -/
def dpGo (n h u : Int) : Int → Int → List Int → List Int
  | _, _, [] => []
  | d, p, x :: xs => (if 0 ≤ wrap64 (u - d) ∧ wrap64 (u - d) ≤ h then (if u = n ∧ d = n then 1 else wrap64 (x + p)) else 0) :: dpGo n h u (d - 1) (if 0 ≤ wrap64 (u - d) ∧ wrap64 (u - d) ≤ h then (if u = n ∧ d = n then 1 else wrap64 (x + p)) else 0) xs
/-- The rows of u = n + 1, n, .. -/
def dpRows (n h : Int) (c : Nat) : Nat → List Int
  | 0 => List.replicate c 0
  | m + 1 => dpGo n h (n - m) n 0 (dpRows n h c m)
def dpVal (n h : Int) : Int := (dpRows n h (n.toNat + 1) (n.toNat + 1)).getD n.toNat 0
theorem dpGo_length (n h u : Int) : ∀ (xs : List Int) (d p : Int), (dpGo n h u d p xs).length = xs.length
  | [], _, _ => rfl
  | x :: xs, d, p => by rw [dpGo, List.length_cons, List.length_cons, dpGo_length n h u xs]
theorem in_some (a b c : Int) : impl_in.f a b c = some (decide (b ≤ a ∧ a ≤ c)) := by
  unfold impl_in.f
  by_cases h : b ≤ a
  · rw [if_pos h]; simp [h]
  · rw [if_neg h]; simp [h]
theorem g_step (n h u d a b : Int) (k : Nat) (hu : u ≤ n) (hd : d ≤ n) (hu1 : wrap64 (u + 1) = u + 1) (hd1 : wrap64 (d + 1) = d + 1) (ha : impl_between_2.g n n 0 h k (u + 1) d = some a) (hb : impl_between_2.g n n 0 h k u (d + 1) = some b) :
    impl_between_2.g n n 0 h (k + 1) u d = some (if 0 ≤ wrap64 (u - d) ∧ wrap64 (u - d) ≤ h then (if u = n ∧ d = n then 1 else wrap64 (a + b)) else 0) := by
  unfold impl_between_2.g
  rw [if_neg (Int.not_lt.mpr hu), if_neg (Int.not_lt.mpr hd), in_some, hu1, hd1, ha, hb]
  simp only [Option.bind_some, decide_eq_true_eq]
  by_cases e : 0 ≤ wrap64 (u - d) ∧ wrap64 (u - d) ≤ h
  · rw [if_pos e, if_pos e]
    by_cases e2 : u = n ∧ d = n
    · rw [if_pos e2, if_pos e2]
    · rw [if_neg e2, if_neg e2]
  · rw [if_neg e, if_neg e]
theorem go_ok (n h u : Int) (hn : n ≤ 15) (hu0 : 0 ≤ u) (hu : u ≤ n) : ∀ (xs : List Int) (d p : Int) (K : Nat), d ≤ n → (xs.length : Int) ≤ d + 1 → (∀ k, K ≤ k → impl_between_2.g n n 0 h k u (d + 1) = some p) →
    (∀ (j : Nat) (hj : j < xs.length) (k : Nat), K + j ≤ k → impl_between_2.g n n 0 h k (u + 1) (d - j) = some xs[j]) → ∀ (j : Nat) (hj : j < (dpGo n h u d p xs).length) (k : Nat), K + j + 1 ≤ k → impl_between_2.g n n 0 h k u (d - j) = some (dpGo n h u d p xs)[j]
  | [], d, p, K, _, _, _, _ => fun j hj => by simp [dpGo] at hj
  | x :: xs, d, p, K, hd, hl, hp, hx => by
    rw [List.length_cons] at hl
    have w1 : wrap64 (u + 1) = u + 1 := w64 (by omega) (by omega)
    have w2 : wrap64 (d + 1) = d + 1 := w64 (by omega) (by omega)
    have hv : ∀ k, K + 1 ≤ k → impl_between_2.g n n 0 h k u d = some (if 0 ≤ wrap64 (u - d) ∧ wrap64 (u - d) ≤ h then (if u = n ∧ d = n then 1 else wrap64 (x + p)) else 0) := by
      intro k hk
      obtain ⟨k, rfl⟩ : ∃ m, k = m + 1 := ⟨k - 1, by omega⟩
      have h0 := hx 0 (by rw [List.length_cons]; omega) k (by omega)
      have e0 : d - ((0 : Nat) : Int) = d := by omega
      rw [e0] at h0
      exact g_step n h u d x p k hu hd w1 w2 h0 (hp k (by omega))
    intro j hj k hk
    cases j with
    | zero =>
      have e0 : d - ((0 : Nat) : Int) = d := by omega
      rw [e0]
      simp only [dpGo, List.getElem_cons_zero]
      exact hv k (by omega)
    | succ j =>
      have e0 : d - ((j + 1 : Nat) : Int) = (d - 1) - (j : Int) := by omega
      rw [e0]
      simp only [dpGo, List.getElem_cons_succ]
      refine go_ok n h u hn hu0 hu xs (d - 1) _ (K + 1) (by omega) (by omega) (fun k hk => ?_) (fun j' hj' k hk => ?_) j (by simpa [dpGo] using hj) k (by omega)
      · have e1 : d - 1 + 1 = d := by omega
        rw [e1]; exact hv k hk
      · have e1 : d - 1 - (j' : Int) = d - ((j' + 1 : Nat) : Int) := by omega
        rw [e1]
        have := hx (j' + 1) (by rw [List.length_cons]; omega) k (by omega)
        rwa [List.getElem_cons_succ] at this
theorem rows_ok (n : Nat) (h : Int) (hn : n ≤ 15) : ∀ m : Nat, m ≤ n + 1 → (dpRows n h (n + 1) m).length = n + 1 ∧ ∀ (j : Nat) (hj : j < (dpRows n h (n + 1) m).length) (k : Nat), m + 1 + j ≤ k → impl_between_2.g n n 0 h k ((n : Int) + 1 - m) ((n : Int) - j) = some (dpRows n h (n + 1) m)[j]
  | 0, _ => by
    refine ⟨by simp [dpRows], fun j hj k hk => ?_⟩
    obtain ⟨k, rfl⟩ : ∃ m, k = m + 1 := ⟨k - 1, by omega⟩
    unfold impl_between_2.g
    rw [if_pos (by omega)]
    simp [dpRows]
  | m + 1, hm => by
    obtain ⟨h1, h2⟩ := rows_ok n h hn m (by omega)
    refine ⟨by rw [dpRows, dpGo_length, h1], fun j hj k hk => ?_⟩
    have e0 : (n : Int) + 1 - ((m + 1 : Nat) : Int) = (n : Int) - (m : Int) := by omega
    rw [e0]
    refine go_ok n h ((n : Int) - m) (by omega) (by omega) (by omega) (dpRows n h (n + 1) m) n 0 (m + 1) (by omega) (by rw [h1]; omega) (fun k hk => ?_) (fun j hj k hk => ?_) j hj k (by omega)
    · obtain ⟨k, rfl⟩ : ∃ m, k = m + 1 := ⟨k - 1, by omega⟩
      unfold impl_between_2.g
      rw [if_neg (by omega), if_pos (by omega)]
    · have e1 : (n : Int) - (m : Int) + 1 = (n : Int) + 1 - (m : Int) := by omega
      rw [e1]; exact h2 j hj k hk
theorem dpVal_eq (n : Nat) (h : Int) (hn : n ≤ 15) : impl_between_2.g n n 0 h 62 0 0 = some (dpVal n h) := by
  obtain ⟨h1, h2⟩ := rows_ok n h hn (n + 1) (Nat.le_refl _)
  have := h2 n (by omega) 62 (by omega)
  have e1 : (n : Int) + 1 - ((n + 1 : Nat) : Int) = 0 := by omega
  have e2 : (n : Int) - (n : Int) = 0 := by omega
  rw [e1, e2] at this
  rw [this]
  unfold dpVal
  rw [Int.toNat_natCast, List.getD_eq_getElem?_getD, List.getElem?_eq_getElem (by omega)]
  rfl
/-- How many good closed paths of n pairs have the greatest height h. -/
def dpBy (n h : Int) : Int := wrap64 (dpVal n h - dpVal n (wrap64 (h - 1)))
theorem byHeight_eq (n h : Int) (h0 : 0 ≤ n) (hn : n ≤ 15) (k : Nat) : impl_byHeight.f k n h = some (dpBy n h) := by
  obtain ⟨m, rfl⟩ : ∃ m : Nat, n = m := ⟨n.toNat, by omega⟩
  unfold impl_byHeight.f
  rw [dpVal_eq m h (by omega), dpVal_eq m _ (by omega)]
  rfl
theorem in_cases (a : Int) (h0 : 0 ≤ a) (h1 : a ≤ 15) : a = 0 ∨ a = 1 ∨ a = 2 ∨ a = 3 ∨ a = 4 ∨ a = 5 ∨ a = 6 ∨ a = 7 ∨ a = 8 ∨ a = 9 ∨ a = 10 ∨ a = 11 ∨ a = 12 ∨ a = 13 ∨ a = 14 ∨ a = 15 := by
  omega
theorem outside (a : Int) (h : ¬ (0 ≤ a ∧ a ≤ 15)) : spec_reGood.f a = some false ∧ impl_isPairs.f a = some false := by
  constructor
  · unfold spec_reGood.f spec_l1In.f
    by_cases h0 : a ≥ 0
    · rw [if_pos h0]; have : ¬ a ≤ 15 := fun h1 => h ⟨h0, h1⟩
      simp [this]
    · rw [if_neg h0]; rfl
  · unfold impl_isPairs.f impl_in.f
    by_cases h0 : 0 ≤ a
    · rw [if_pos h0]; have : ¬ a ≤ 15 := fun h1 => h ⟨h0, h1⟩
      simp [this]
    · rw [if_neg h0]; rfl

def ofDp (n x : Int) : Option Int := if 0 ≤ n ∧ n ≤ 15 then some (dpBy n x) else none
theorem ofDp_le (n : Int) (K : Nat) : ∀ x, LeO (ofDp n x) (impl_CountByHeight_1.f K n x) := by
  intro x r h
  unfold ofDp at h
  by_cases e : 0 ≤ n ∧ n ≤ 15
  · rw [if_pos e] at h
    unfold impl_CountByHeight_1.f
    rw [byHeight_eq n x e.1 e.2 K]
    exact h
  · rw [if_neg e] at h; cases h
def chk (n : Int) : Bool := match spec_CountByHeight.f 5000 n, impl_numbers.f 4999 n (ofDp n) with
  | some (a, true), some b => decide (b = a) && decide (a.length ≤ 20)
  | _, _ => false
theorem chk_all : chk 0 = true ∧ chk 1 = true ∧ chk 2 = true ∧ chk 3 = true ∧ chk 4 = true ∧ chk 5 = true ∧ chk 6 = true ∧ chk 7 = true ∧ chk 8 = true ∧ chk 9 = true ∧ chk 10 = true ∧ chk 11 = true ∧ chk 12 = true ∧ chk 13 = true ∧ chk 14 = true ∧ chk 15 = true := by
  refine ⟨?_, ?_, ?_, ?_, ?_, ?_, ?_, ?_, ?_, ?_, ?_, ?_, ?_, ?_, ?_, ?_⟩ <;> kernel_rfl
theorem both (a : Int) : ∃ (L : List Int) (b : Bool), L.length ≤ 20 ∧ (∀ k, 5000 ≤ k → spec_CountByHeight.f k a = some (L, b)) ∧ ∀ k, 5000 ≤ k → impl_CountByHeight.f k a = some (L, b) := by
  by_cases h : 0 ≤ a ∧ a ≤ 15
  · have hc : chk a = true := by
      obtain ⟨c0, c1, c2, c3, c4, c5, c6, c7, c8, c9, c10, c11, c12, c13, c14, c15⟩ := chk_all
      obtain e | e | e | e | e | e | e | e | e | e | e | e | e | e | e | e := in_cases a h.1 h.2 <;> subst e <;> assumption
    have hp : impl_isPairs.f a = some true := by
      unfold impl_isPairs.f
      rw [in_some]
      simp [h]
    unfold chk at hc
    cases h1 : spec_CountByHeight.f 5000 a with
    | none => rw [h1] at hc; cases hc
    | some r1 =>
      cases h2 : impl_numbers.f 4999 a (ofDp a) with
      | none =>
        rw [h1, h2] at hc
        obtain ⟨x, y⟩ := r1
        cases y <;> cases hc
      | some r2 =>
        rw [h1, h2] at hc
        obtain ⟨x, y⟩ := r1
        cases y
        · cases hc
        · simp only [Bool.and_eq_true, decide_eq_true_eq] at hc
          obtain ⟨rfl, hl⟩ := hc
          have h3 := impl_numbers.mono (of := ofDp a) (of' := fun x => impl_CountByHeight_1.f 5000 a x) (ofDp_le a 5000) a 4999 _ h2
          have h4 : impl_CountByHeight.f 5000 a = some (r2, true) := by
            unfold impl_CountByHeight.f
            rw [hp]
            simp only [Option.bind_some, if_true]
            rw [show impl_numbers.f 5000 a (fun x => impl_CountByHeight_1.f 5000 a x) = some r2 from h3]
            rfl
          exact ⟨r2, true, hl, fun k hk => up' (fun k => spec_CountByHeight.f k a) (fun k => spec_CountByHeight.mono a k) h1 k hk, fun k hk => up' (fun k => impl_CountByHeight.f k a) (fun k => impl_CountByHeight.mono a k) h4 k hk⟩
  · obtain ⟨h1, h2⟩ := outside a h
    refine ⟨[], false, by simp, fun k _ => ?_, fun k _ => ?_⟩
    · simp [spec_CountByHeight.f, h1]
    · simp [impl_CountByHeight.f, h2]
theorem FnExactCountByHeight : laws_FnExactCountByHeight.Pure := by
  intro a _
  obtain ⟨L, b, hL, hs, hi⟩ := both a
  obtain ⟨k, hk⟩ : ∃ k : Nat, 1050000 < k := ⟨1050001, by omega⟩
  refine ⟨k + 2, ?_⟩
  unfold laws_FnExactCountByHeight.f
  rw [hs (k + 2) (by omega), hi (k + 2) (by omega)]
  simp only [Option.bind_some]
  rw [eqI_self L (by omega) (k + 2) (by omega)]
  simp only [Option.bind_some, if_true]
  rw [show (b != b) = false by cases b <;> rfl]
  exact tail0 k hk a L b (by omega) (fun k hk => hi k (by omega))

end Go.Proofs.Ytjammocipljgfaa.PuqFnExactCountByHeight
namespace Go.Proofs.Ytjammocipljgfaa.Pure
open Go.Proofs.Ytjammocipljgfaa.QFnExactCountByHeight
theorem FnExactCountByHeight : laws_FnExactCountByHeight.Pure := Go.Proofs.Ytjammocipljgfaa.PuqFnExactCountByHeight.FnExactCountByHeight
end Go.Proofs.Ytjammocipljgfaa.Pure
