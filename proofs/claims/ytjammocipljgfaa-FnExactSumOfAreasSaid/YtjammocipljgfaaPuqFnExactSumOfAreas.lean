/- For every number: SumOfAreas of the program and of the reference answer alike. -/
import Derived.Test.YtjammocipljgfaaQFnExactSumOfAreasx2
import Derived.Test.YtjammocipljgfaaZpl
namespace Go.Proofs.Ytjammocipljgfaa.PuqFnExactSumOfAreas
open Go.RowKit Go.Proofs.Ytjammocipljgfaa.QFnExactSumOfAreas Go.Proofs.YtjammocipljgfaaW.PrintWords Go.Proofs.YtjammocipljgfaaW.PrintLast Go.Proofs.YtjammocipljgfaaPl
set_option linter.unusedVariables false

theorem up {α : Type} (F : Nat → Option α) (hm : ∀ k, LeO (F k) (F (k + 1))) {k0 : Nat} {r : α} (h : F k0 = some r) : ∀ d, F (k0 + d) = some r
  | 0 => h
  | d + 1 => hm _ _ (up F hm h d)
theorem up' {α : Type} (F : Nat → Option α) (hm : ∀ k, LeO (F k) (F (k + 1))) {k0 : Nat} {r : α} (h : F k0 = some r) (k : Nat) (hk : k0 ≤ k) : F k = some r := by
  obtain ⟨d, rfl⟩ : ∃ d, k = k0 + d := ⟨k - k0, by omega⟩
  exact up F hm h d

/-! ### Rows, their sums and their weighted sums -/
def dm : Int → List Int → Int
  | _, [] => 0
  | o, x :: xs => o * x + dm (o + 1) xs
def sm : List Int → Int
  | [] => 0
  | x :: xs => x + sm xs
theorem sm_append (xs ys : List Int) : sm (xs ++ ys) = sm xs + sm ys := by
  induction xs with
  | nil => simp [sm]
  | cons x xs ih => simp only [List.cons_append, sm, ih]; omega
theorem dm_append (xs ys : List Int) : ∀ o : Int, dm o (xs ++ ys) = dm o xs + dm (o + xs.length) ys := by
  induction xs with
  | nil => intro o; simp [dm]
  | cons x xs ih =>
    intro o
    simp only [List.cons_append, dm, ih, List.length_cons]
    rw [show o + 1 + (xs.length : Int) = o + ((xs.length + 1 : Nat) : Int) by omega]; omega
theorem sm_set (v : Int) : ∀ (xs : List Int) (p : Nat), p < xs.length → sm (xs.set p (xs.getD p 0 + v)) = sm xs + v
  | [], p, h => absurd h (Nat.not_lt_zero _)
  | x :: xs, 0, _ => by simp only [List.set_cons_zero, sm, List.getD_cons_zero]; omega
  | x :: xs, p + 1, h => by
    have ih := sm_set v xs p (by simpa using h)
    simp only [List.set_cons_succ, sm, List.getD_cons_succ, ih]; omega
theorem dm_set (v : Int) : ∀ (xs : List Int) (p : Nat) (o : Int), p < xs.length → dm o (xs.set p (xs.getD p 0 + v)) = dm o xs + (o + p) * v
  | [], p, _, h => absurd h (Nat.not_lt_zero _)
  | x :: xs, 0, o, _ => by
    simp only [List.set_cons_zero, dm, List.getD_cons_zero]
    rw [Int.mul_add, show o + ((0 : Nat) : Int) = o by omega]; omega
  | x :: xs, p + 1, o, h => by
    have ih := dm_set v xs p (o + 1) (by simpa using h)
    simp only [List.set_cons_succ, dm, List.getD_cons_succ, ih]
    rw [show o + 1 + (p : Int) = o + ((p + 1 : Nat) : Int) by omega]; omega
theorem sm_nonneg (xs : List Int) (h : ∀ x ∈ xs, 0 ≤ x) : 0 ≤ sm xs := by
  induction xs with
  | nil => simp [sm]
  | cons x xs ih =>
    have h1 := h x (List.mem_cons_self ..)
    have h2 := ih (fun y hy => h y (List.mem_cons_of_mem _ hy))
    simp only [sm]; omega
theorem le_sm (xs : List Int) (h : ∀ x ∈ xs, 0 ≤ x) : ∀ p : Nat, p < xs.length → 0 ≤ xs.getD p 0 ∧ xs.getD p 0 ≤ sm xs := by
  induction xs with
  | nil => intro p hp; exact absurd hp (Nat.not_lt_zero _)
  | cons x xs ih =>
    have h1 := h x (List.mem_cons_self ..)
    have h2 : ∀ y ∈ xs, 0 ≤ y := fun y hy => h y (List.mem_cons_of_mem _ hy)
    have h3 := sm_nonneg xs h2
    intro p hp
    cases p with
    | zero => simp only [List.getD_cons_zero, sm]; omega
    | succ p =>
      have h4 := ih h2 p (by simpa using hp)
      simp only [List.getD_cons_succ, sm]; omega
def ps (xs : List Int) (b : Nat) : Int := sm (xs.take b)
def pd (xs : List Int) (b : Nat) : Int := dm 0 (xs.take b)
theorem getD_el (xs : List Int) (b : Nat) (h : b < xs.length) : xs.getD b 0 = xs[b] := by
  rw [List.getD_eq_getElem?_getD, List.getElem?_eq_getElem h]; rfl
theorem take_snoc (xs : List Int) (b : Nat) (h : b < xs.length) : xs.take (b + 1) = xs.take b ++ [xs.getD b 0] := by
  rw [List.take_add_one, List.getElem?_eq_getElem h, getD_el xs b h]; rfl
theorem ps_succ (xs : List Int) (b : Nat) (h : b < xs.length) : ps xs (b + 1) = ps xs b + xs.getD b 0 := by
  unfold ps; rw [take_snoc xs b h, sm_append]; simp [sm]
theorem pd_succ (xs : List Int) (b : Nat) (h : b < xs.length) : pd xs (b + 1) = pd xs b + b * xs.getD b 0 := by
  unfold pd; rw [take_snoc xs b h, dm_append, List.length_take, Nat.min_eq_left (by omega)]; simp [dm]
theorem ps_full (xs : List Int) : ps xs xs.length = sm xs := by unfold ps; rw [List.take_length]
theorem pd_full (xs : List Int) : pd xs xs.length = dm 0 xs := by unfold pd; rw [List.take_length]
theorem ps_bound (xs : List Int) (h : ∀ x ∈ xs, 0 ≤ x) (b : Nat) : 0 ≤ ps xs b ∧ ps xs b ≤ sm xs := by
  have e : sm xs = ps xs b + sm (xs.drop b) := by unfold ps; rw [← sm_append, List.take_append_drop]
  have h1 : 0 ≤ sm (xs.drop b) := sm_nonneg _ fun x hx => h x (List.mem_of_mem_drop hx)
  have h2 : 0 ≤ ps xs b := sm_nonneg _ fun x hx => h x (List.mem_of_mem_take hx)
  omega
/-- A row of L numbers, none below 0, with its sum and its weighted sum. -/
def RowL (L : Nat) (s d : Int) (xs : List Int) : Prop := xs.length = L ∧ (∀ x ∈ xs, 0 ≤ x) ∧ sm xs = s ∧ dm 0 xs = d
theorem RowL_upd {L : Nat} {s d : Int} {xs : List Int} (h : RowL L s d xs) (p : Nat) (hp : p < L) (v : Int) (hv : 0 ≤ v) : RowL L (s + v) (d + p * v) (xs.set p (xs.getD p 0 + v)) := by
  obtain ⟨h1, h2, h3, h4⟩ := h
  refine ⟨by rw [List.length_set]; exact h1, fun x hx => ?_, by rw [sm_set v xs p (by omega), h3], by rw [dm_set v xs p 0 (by omega), h4, Int.zero_add]⟩
  rcases List.mem_or_eq_of_mem_set hx with hx | hx
  · exact h2 x hx
  · have := (le_sm xs h2 p (by omega)).1; omega
theorem rd_gd (xs : List Int) (i : Nat) : rd xs (i : Int) = xs.getD i 0 := by unfold rd; rw [Int.toNat_natCast]
theorem mulb {u v : Int} (h1 : 0 ≤ u) (h2 : u ≤ 10000000) (h3 : 0 ≤ v) (h4 : v ≤ 10000000) : 0 ≤ u * v ∧ u * v ≤ 100000000000000 := by
  refine ⟨Int.mul_nonneg h1 h3, ?_⟩
  have := Int.mul_le_mul h2 h4 h3 (by omega : (0 : Int) ≤ 10000000)
  omega

/-! ### The numbers -/
def SL : List Int := [1, 1, 2, 5, 14, 42, 132, 429, 1430, 4862, 16796, 58786, 208012, 742900, 2674440, 9694845]
def DL : List Int := [0, 1, 6, 29, 130, 562, 2380, 9949, 41226, 169766, 695860, 2842226, 11576916, 47050564, 190876696, 773201629]
def S (n : Nat) : Int := SL.getD n 0
def DD (n : Nat) : Int := DL.getD n 0
def pS (k : Nat) : Nat → Int
  | 0 => 0
  | g + 1 => pS k g + S g * S (k - 1 - g)
def pD (k : Nat) : Nat → Int
  | 0 => 0
  | g + 1 => pD k g + (DD g * S (k - 1 - g) + S g * DD (k - 1 - g) + (2 * (g : Int) + 1) * (S g * S (k - 1 - g)))
theorem S_b : ∀ g : Nat, g < 16 → 0 ≤ S g ∧ S g ≤ 10000000 := by decide
theorem pS_b : ∀ k : Nat, k < 16 → ∀ g : Nat, g < 17 → 0 ≤ pS k g ∧ pS k g ≤ 100000000000000 := by decide +kernel
theorem tab_S : ∀ k : Nat, k < 16 → 0 < k → pS k k = S k ∧ pD k k = DD k := by decide +kernel
theorem fits : ∀ k : Nat, k < 16 → ∀ g : Nat, g < k → g * g + 1 + ((k - 1 - g) * (k - 1 - g) + 1) + (2 * (g + 1) - 1) ≤ k * k + 1 + 1 := by decide +kernel
theorem sq_b : ∀ k : Nat, k < 16 → k * k ≤ 225 := by decide
def Good (n : Nat) (out : List (List Int)) : Prop := out.length = n ∧ ∀ i : Nat, i < n → RowL (i * i + 1) (S i) (DD i) (out.getD i [])

/-! ### The loops -/
theorem a_idx (a f b : Nat) (ha : a ≤ 300) (hf : f ≤ 16) (hf1 : 1 ≤ f) (hb : b ≤ 300) : wrap64 (wrap64 (wrap64 ((a : Int) + wrap64 (2 * (f : Int))) - 1) + (b : Int)) = ((a + 2 * f - 1 + b : Nat) : Int) := by
  rw [w64 (x := 2 * (f : Int)) (by omega) (by omega), w64 (x := (a : Int) + 2 * (f : Int)) (by omega) (by omega), w64 (x := (a : Int) + 2 * (f : Int) - 1) (by omega) (by omega), w64 (by omega) (by omega)]; omega
theorem a_suc (a : Nat) (h : a ≤ 1000) : wrap64 ((a : Int) + 1) = ((a + 1 : Nat) : Int) := by rw [w64 (by omega) (by omega)]; omega
theorem a_lt {a b : Nat} (h : a < b) : (a : Int) < (b : Int) := by omega
theorem a_nlt {a b : Nat} (h : ¬ a < b) : ¬ (a : Int) < (b : Int) := by omega
theorem l3_ok (n : Int) (rows : List (List Int)) (k f a : Nat) (x s0 d0 : Int) (A C : List Int) (G : List (List Int) → Prop) (B : Nat)
    (ha : a ≤ 300) (hf : f ≤ 16) (hf1 : 1 ≤ f) (hx : 0 ≤ x) (hx2 : x ≤ 10000000) (hC : ∀ y ∈ C, 0 ≤ y) (hC2 : sm C ≤ 10000000) (hCl : C.length ≤ 300) (hfit : a + 2 * f - 1 + C.length ≤ k * k + 1) (hs0 : 0 ≤ s0) (hs2 : s0 ≤ 1000000000000000)
    (H : ∀ row', RowL (k * k + 1) (s0 + x * sm C) (d0 + x * (((a + 2 * f - 1 : Nat) : Int) * sm C + dm 0 C)) row' → ∀ q, B < q → ∃ out, spec_reAreas.l2 q n rows (k : Int) row' (f : Int) A (A.length : Int) ((a + 1 : Nat) : Int) = some out ∧ G out) (e : Nat) :
    ∀ (b q : Nat) (row : List Int), b + e = C.length → B + e + 1 < q → RowL (k * k + 1) (s0 + x * ps C b) (d0 + x * (((a + 2 * f - 1 : Nat) : Int) * ps C b + pd C b)) row →
      ∃ out, spec_reAreas.l3 q n rows (k : Int) row (f : Int) (a : Int) x A (A.length : Int) (a : Int) C (C.length : Int) (b : Int) = some out ∧ G out := by
  induction e with
  | zero =>
    intro b q row h1 h2 h3
    obtain ⟨q, rfl⟩ : ∃ m, q = m + 1 := ⟨q - 1, by omega⟩
    obtain rfl : b = C.length := by omega
    rw [ps_full, pd_full] at h3
    simp only [spec_reAreas.l3]
    rw [if_neg (a_nlt (Nat.lt_irrefl _)), a_suc a (by omega)]
    exact H row h3 q (by omega)
  | succ e ih =>
    intro b q row h1 h2 h3
    obtain ⟨q, rfl⟩ : ∃ m, q = m + 1 := ⟨q - 1, by omega⟩
    have hb : b < C.length := by omega
    have hp : a + 2 * f - 1 + b < k * k + 1 := by omega
    have hy := le_sm C hC b hb
    have hpb := ps_bound C hC b
    have hpb1 := ps_bound C hC (b + 1)
    have m1 := mulb hx hx2 hy.1 (by omega)
    have m2 := mulb hx hx2 hpb.1 (by omega)
    have hr := le_sm row h3.2.1 (a + 2 * f - 1 + b) (by rw [h3.1]; exact hp)
    rw [h3.2.2.1] at hr
    have hu := RowL_upd h3 (a + 2 * f - 1 + b) hp (x * C.getD b 0) m1.1
    have e1 : s0 + x * ps C b + x * C.getD b 0 = s0 + x * ps C (b + 1) := by rw [ps_succ C b hb, Int.mul_add]; omega
    have e2 : d0 + x * (((a + 2 * f - 1 : Nat) : Int) * ps C b + pd C b) + ((a + 2 * f - 1 + b : Nat) : Int) * (x * C.getD b 0) = d0 + x * (((a + 2 * f - 1 : Nat) : Int) * ps C (b + 1) + pd C (b + 1)) := by
      rw [ps_succ C b hb, pd_succ C b hb, show ((a + 2 * f - 1 + b : Nat) : Int) = ((a + 2 * f - 1 : Nat) : Int) + (b : Int) by omega]
      generalize ((a + 2 * f - 1 : Nat) : Int) = z
      generalize C.getD b 0 = y
      generalize ps C b = u
      generalize pd C b = v
      simp only [Int.mul_add, Int.add_mul]
      rw [show z * (x * y) = x * (z * y) by rw [← Int.mul_assoc, Int.mul_comm z x, Int.mul_assoc], show (b : Int) * (x * y) = x * ((b : Int) * y) by rw [← Int.mul_assoc, Int.mul_comm (b : Int) x, Int.mul_assoc]]
      omega
    rw [e1, e2] at hu
    have f1 := ih (b + 1) q _ (by omega) (by omega) hu
    have w1 : wrap64 (x * C.getD b 0) = x * C.getD b 0 := w64 (by omega) (by omega)
    have w2 : wrap64 (row.getD (a + 2 * f - 1 + b) 0 + x * C.getD b 0) = row.getD (a + 2 * f - 1 + b) 0 + x * C.getD b 0 := w64 (by omega) (by omega)
    simp only [spec_reAreas.l3, a_idx a f b ha hf hf1 (by omega), rd_gd, Int.toNat_natCast, w1, w2, a_suc b (by omega)]
    rw [if_pos (a_lt hb), if_pos (Int.natCast_nonneg b), if_pos (a_lt hb), if_pos (Int.natCast_nonneg _), if_pos (a_lt (by rw [h3.1]; exact hp))]
    exact f1

theorem rdL1g (xs : List (List Int)) (i : Nat) : rd_L1 xs (i : Int) = xs.getD i [] := by unfold rd_L1; rw [Int.toNat_natCast]
theorem a_kf (k f : Nat) (hk : k ≤ 16) (hf : f ≤ k) : wrap64 ((k : Int) - (f : Int)) = ((k - f : Nat) : Int) := by rw [w64 (by omega) (by omega)]; omega
theorem l2_ok (n : Int) (rows : List (List Int)) (k f : Nat) (s0 d0 : Int) (A C : List Int) (G : List (List Int) → Prop) (B : Nat)
    (hk : k ≤ 16) (hf : f ≤ k) (hf1 : 1 ≤ f) (hA : ∀ y ∈ A, 0 ≤ y) (hA2 : sm A ≤ 10000000) (hAl : A.length ≤ 300) (hC : ∀ y ∈ C, 0 ≤ y) (hC2 : sm C ≤ 10000000) (hCl : C.length ≤ 300)
    (hfit : A.length + C.length + (2 * f - 1) ≤ k * k + 2) (hs0 : 0 ≤ s0) (hs2 : s0 ≤ 100000000000000) (hr : rows.getD (k - f) [] = C) (hrl : k - f < rows.length)
    (H : ∀ row', RowL (k * k + 1) (s0 + sm A * sm C) (d0 + (dm 0 A * sm C + sm A * dm 0 C + ((2 * f - 1 : Nat) : Int) * (sm A * sm C))) row' → ∀ q, B < q → ∃ out, spec_reAreas.l1 q n rows (k : Int) row' ((f + 1 : Nat) : Int) = some out ∧ G out) (e : Nat) :
    ∀ (a q : Nat) (row : List Int), a + e = A.length → B + e * 310 + 1 < q → RowL (k * k + 1) (s0 + ps A a * sm C) (d0 + (pd A a * sm C + ps A a * dm 0 C + ((2 * f - 1 : Nat) : Int) * (ps A a * sm C))) row →
      ∃ out, spec_reAreas.l2 q n rows (k : Int) row (f : Int) A (A.length : Int) (a : Int) = some out ∧ G out := by
  induction e with
  | zero =>
    intro a q row h1 h2 h3
    obtain ⟨q, rfl⟩ : ∃ m, q = m + 1 := ⟨q - 1, by omega⟩
    obtain rfl : a = A.length := by omega
    rw [ps_full, pd_full] at h3
    simp only [spec_reAreas.l2]
    rw [if_neg (a_nlt (Nat.lt_irrefl _)), a_suc f (by omega)]
    exact H row h3 q (by omega)
  | succ e ih =>
    intro a q row h1 h2 h3
    obtain ⟨q, rfl⟩ : ∃ m, q = m + 1 := ⟨q - 1, by omega⟩
    have ha : a < A.length := by omega
    have hx := le_sm A hA a ha
    have hpa := ps_bound A hA a
    have hC0 := sm_nonneg C hC
    have m2 := mulb hpa.1 (by omega) hC0 hC2
    have H' : ∀ row', RowL (k * k + 1) (s0 + ps A a * sm C + A.getD a 0 * sm C) (d0 + (pd A a * sm C + ps A a * dm 0 C + ((2 * f - 1 : Nat) : Int) * (ps A a * sm C)) + A.getD a 0 * (((a + 2 * f - 1 : Nat) : Int) * sm C + dm 0 C)) row' → ∀ q, B + e * 310 + 1 < q → ∃ out, spec_reAreas.l2 q n rows (k : Int) row' (f : Int) A (A.length : Int) ((a + 1 : Nat) : Int) = some out ∧ G out := by
      intro row' hrow' q' hq'
      refine ih (a + 1) q' row' (by omega) hq' ?_
      have e1 : s0 + ps A a * sm C + A.getD a 0 * sm C = s0 + ps A (a + 1) * sm C := by rw [ps_succ A a ha, Int.add_mul]; omega
      have e2 : d0 + (pd A a * sm C + ps A a * dm 0 C + ((2 * f - 1 : Nat) : Int) * (ps A a * sm C)) + A.getD a 0 * (((a + 2 * f - 1 : Nat) : Int) * sm C + dm 0 C) = d0 + (pd A (a + 1) * sm C + ps A (a + 1) * dm 0 C + ((2 * f - 1 : Nat) : Int) * (ps A (a + 1) * sm C)) := by
        rw [ps_succ A a ha, pd_succ A a ha, show ((a + 2 * f - 1 : Nat) : Int) = (a : Int) + ((2 * f - 1 : Nat) : Int) by omega]
        generalize ((2 * f - 1 : Nat) : Int) = z
        generalize A.getD a 0 = x
        generalize ps A a = u
        generalize pd A a = v
        generalize sm C = c
        generalize dm 0 C = d
        simp only [Int.mul_add, Int.add_mul]
        rw [show x * ((a : Int) * c) = (a : Int) * x * c by rw [← Int.mul_assoc, Int.mul_comm x (a : Int)], show x * (z * c) = z * (x * c) by rw [← Int.mul_assoc, Int.mul_comm x z, Int.mul_assoc]]
        omega
      rw [e1, e2] at hrow'
      exact hrow'
    have f1 := l3_ok n rows k f a (A.getD a 0) (s0 + ps A a * sm C) (d0 + (pd A a * sm C + ps A a * dm 0 C + ((2 * f - 1 : Nat) : Int) * (ps A a * sm C))) A C G (B + e * 310 + 1) (by omega) (by omega) hf1 hx.1 (by omega) hC hC2 hCl (by omega) (by omega) (by omega) H' C.length 0 q row (by omega) (by omega) (by
        rw [show ps C 0 = 0 from rfl, show pd C 0 = 0 from rfl, Int.mul_zero, Int.mul_zero, Int.zero_add, Int.mul_zero, Int.add_zero, Int.add_zero]; exact h3)
    simp only [spec_reAreas.l2, a_kf k f hk hf, rd_gd, rdL1g, hr]
    rw [if_pos (a_lt ha), if_pos (Int.natCast_nonneg a), if_pos (a_lt ha), if_pos (Int.natCast_nonneg _), if_pos (a_lt hrl)]
    exact f1
theorem a_pred (g : Nat) (h : g ≤ 100) : wrap64 (((g + 1 : Nat) : Int) - 1) = (g : Int) := by rw [w64 (by omega) (by omega)]; omega
theorem a_le {a b : Nat} (h : a ≤ b) : (a : Int) ≤ (b : Int) := by omega
theorem a_nle {a b : Nat} (h : ¬ a ≤ b) : ¬ (a : Int) ≤ (b : Int) := by omega
theorem l1_ok (n : Int) (rows : List (List Int)) (k : Nat) (hk1 : 1 ≤ k) (hk : k < 16) (hrows : Good k rows) (G : List (List Int) → Prop) (B : Nat)
    (H : ∀ row, RowL (k * k + 1) (S k) (DD k) row → ∀ q, B < q → ∃ out, spec_reAreas.l0 q n (rows ++ [row]) ((k + 1 : Nat) : Int) = some out ∧ G out) (e : Nat) :
    ∀ (g q : Nat) (row : List Int), g + e = k → B + e * 100000 + 1 < q → RowL (k * k + 1) (pS k g) (pD k g) row → ∃ out, spec_reAreas.l1 q n rows (k : Int) row ((g + 1 : Nat) : Int) = some out ∧ G out := by
  induction e with
  | zero =>
    intro g q row h1 h2 h3
    obtain ⟨q, rfl⟩ : ∃ m, q = m + 1 := ⟨q - 1, by omega⟩
    obtain rfl : g = k := by omega
    have ht := tab_S g hk (by omega)
    rw [ht.1, ht.2] at h3
    have hl : rows.length < 5864062014805 := by rw [hrows.1]; omega
    simp only [spec_reAreas.l1]
    rw [if_neg (a_nle (by omega)), if_pos hl, a_suc g (by omega)]
    exact H row h3 q (by omega)
  | succ e ih =>
    intro g q row h1 h2 h3
    obtain ⟨q, rfl⟩ : ∃ m, q = m + 1 := ⟨q - 1, by omega⟩
    have hg : g < k := by omega
    obtain ⟨a1, a2, a3, a4⟩ := hrows.2 g hg
    obtain ⟨c1, c2, c3, c4⟩ := hrows.2 (k - (g + 1)) (by omega)
    have sb1 := S_b g (by omega)
    have sb2 := S_b (k - (g + 1)) (by omega)
    have pb := pS_b k hk g (by omega)
    have sq1 := sq_b g (by omega)
    have sq2 := sq_b (k - (g + 1)) (by omega)
    have ft := fits k hk g hg
    rw [show k - 1 - g = k - (g + 1) by omega] at ft
    have H' : ∀ row', RowL (k * k + 1) (pS k g + sm (rows.getD g []) * sm (rows.getD (k - (g + 1)) [])) (pD k g + (dm 0 (rows.getD g []) * sm (rows.getD (k - (g + 1)) []) + sm (rows.getD g []) * dm 0 (rows.getD (k - (g + 1)) []) + ((2 * (g + 1) - 1 : Nat) : Int) * (sm (rows.getD g []) * sm (rows.getD (k - (g + 1)) [])))) row' →
        ∀ q, B + e * 100000 + 1 < q → ∃ out, spec_reAreas.l1 q n rows (k : Int) row' ((g + 1 + 1 : Nat) : Int) = some out ∧ G out := by
      intro row' hrow' q' hq'
      refine ih (g + 1) q' row' (by omega) hq' ?_
      rw [a3, a4, c3, c4, show ((2 * (g + 1) - 1 : Nat) : Int) = 2 * (g : Int) + 1 by omega] at hrow'
      simp only [pS, pD]
      rw [show k - 1 - g = k - (g + 1) by omega]
      exact hrow'
    have f1 := l2_ok n rows k (g + 1) (pS k g) (pD k g) (rows.getD g []) (rows.getD (k - (g + 1)) []) G (B + e * 100000 + 1) (by omega) (by omega) (by omega) a2 (by rw [a3]; exact sb1.2) (by rw [a1]; omega) c2 (by rw [c3]; exact sb2.2) (by rw [c1]; omega) (by rw [a1, c1]; omega) pb.1 pb.2 rfl (by rw [hrows.1]; omega) H' (rows.getD g []).length 0 q row (by omega) (by rw [a1]; omega) (by
        rw [show ps (rows.getD g []) 0 = 0 from rfl, show pd (rows.getD g []) 0 = 0 from rfl, Int.zero_mul, Int.zero_mul, Int.mul_zero, Int.add_zero, Int.add_zero, Int.add_zero, Int.add_zero]; exact h3)
    simp only [spec_reAreas.l1, a_pred g (by omega), rdL1g]
    rw [if_pos (a_le (by omega)), if_pos (Int.natCast_nonneg g), if_pos (a_lt (by rw [hrows.1]; exact hg))]
    exact f1
theorem a_sq (k : Nat) (h : k * k ≤ 225) : wrap64 (wrap64 ((k : Int) * (k : Int)) + 1) = ((k * k + 1 : Nat) : Int) := by
  have e : (k : Int) * (k : Int) = ((k * k : Nat) : Int) := by rw [Int.natCast_mul]
  rw [e, w64 (x := ((k * k : Nat) : Int)) (by omega) (by omega), w64 (by omega) (by omega)]; omega
theorem Row0 (L : Nat) : RowL L 0 0 (List.replicate L 0) := by
  refine ⟨by simp, fun x hx => by rw [List.eq_of_mem_replicate hx]; exact Int.le_refl _, ?_, ?_⟩
  · induction L with
    | zero => rfl
    | succ L ih => rw [List.replicate_succ]; simp only [sm, ih]; rfl
  · have : ∀ (L : Nat) (o : Int), dm o (List.replicate L 0) = 0 := by
      intro L
      induction L with
      | zero => intro o; rfl
      | succ L ih => intro o; rw [List.replicate_succ]; simp only [dm, ih, Int.mul_zero]; rfl
    exact this L 0
theorem Good_snoc {k : Nat} {rows : List (List Int)} (h : Good k rows) {row : List Int} (hr : RowL (k * k + 1) (S k) (DD k) row) : Good (k + 1) (rows ++ [row]) := by
  refine ⟨by rw [List.length_append, h.1]; rfl, fun i hi => ?_⟩
  by_cases c : i < k
  · rw [List.getD_eq_getElem?_getD, List.getElem?_append_left (by rw [h.1]; exact c), ← List.getD_eq_getElem?_getD]
    exact h.2 i c
  · obtain rfl : i = k := by omega
    rw [List.getD_eq_getElem?_getD, List.getElem?_append_right (by rw [h.1]; exact Nat.le_refl _), h.1, Nat.sub_self]
    exact hr
theorem l0_ok (n : Nat) (hn : n ≤ 15) (e : Nat) : ∀ (k q : Nat) (rows : List (List Int)), k + e = n + 1 → 1 ≤ k → e * 2000000 + 2 < q → Good k rows → ∃ out, spec_reAreas.l0 q (n : Int) rows (k : Int) = some out ∧ Good (n + 1) out := by
  induction e with
  | zero =>
    intro k q rows h1 h2 h3 h4
    obtain ⟨q, rfl⟩ : ∃ m, q = m + 1 := ⟨q - 1, by omega⟩
    obtain rfl : k = n + 1 := by omega
    simp only [spec_reAreas.l0]
    rw [if_neg (a_nle (by omega))]
    exact ⟨rows, rfl, h4⟩
  | succ e ih =>
    intro k q rows h1 h2 h3 h4
    obtain ⟨q, rfl⟩ : ∃ m, q = m + 1 := ⟨q - 1, by omega⟩
    have hsq := sq_b k (by omega)
    have hc : (((k * k + 1 : Nat) : Int) : Int).toNat ≤ 35184372088832 := by rw [Int.toNat_natCast]; omega
    have f1 := l1_ok (n : Int) rows k h2 (by omega) h4 (Good (n + 1)) (e * 2000000 + 2) (fun row hrow q' hq' => ih (k + 1) q' (rows ++ [row]) (by omega) (by omega) hq' (Good_snoc h4 hrow)) k 0 q (List.replicate (k * k + 1) 0) (by omega) (by omega) (Row0 _)
    simp only [spec_reAreas.l0, a_sq k hsq]
    rw [if_pos (a_le (by omega)), if_pos (Int.natCast_nonneg _), if_pos hc, Int.toNat_natCast]
    exact f1
theorem pd_b (xs : List Int) (h : ∀ x ∈ xs, 0 ≤ x) : ∀ i : Nat, i ≤ xs.length → i ≤ 300 → 0 ≤ pd xs i ∧ pd xs i ≤ 300 * ps xs i
  | 0, _, _ => by rw [show ps xs 0 = 0 from rfl, show pd xs 0 = 0 from rfl]; exact ⟨Int.le_refl _, Int.le_refl _⟩
  | i + 1, h1, h2 => by
    have ih := pd_b xs h i (by omega) (by omega)
    have hx := (le_sm xs h i (by omega)).1
    rw [ps_succ xs i (by omega), pd_succ xs i (by omega)]
    have m1 : 0 ≤ (i : Int) * xs.getD i 0 := Int.mul_nonneg (Int.natCast_nonneg i) hx
    have m2 : (i : Int) * xs.getD i 0 ≤ 300 * xs.getD i 0 := Int.mul_le_mul_of_nonneg_right (by omega) hx
    omega
theorem so_l (row : List Int) (h : ∀ x ∈ row, 0 ≤ x) (hs : sm row ≤ 10000000) (hl : row.length ≤ 300) (e : Nat) : ∀ (i q : Nat), i + e = row.length → e < q → spec_SumOfAreas.l0 q (pd row i) row (row.length : Int) (i : Int) = some (pd row row.length, true) := by
  induction e with
  | zero =>
    intro i q h1 h2
    obtain ⟨q, rfl⟩ : ∃ m, q = m + 1 := ⟨q - 1, by omega⟩
    obtain rfl : i = row.length := by omega
    simp only [spec_SumOfAreas.l0]
    rw [if_neg (a_nlt (Nat.lt_irrefl _))]
  | succ e ih =>
    intro i q h1 h2
    obtain ⟨q, rfl⟩ : ∃ m, q = m + 1 := ⟨q - 1, by omega⟩
    have hi : i < row.length := by omega
    have b1 := pd_b row h i (by omega) (by omega)
    have b2 := ps_bound row h i
    have b3 := le_sm row h i hi
    have m1 := mulb (u := (i : Int)) (v := row.getD i 0) (Int.natCast_nonneg i) (by omega) b3.1 (by omega)
    have w1 : wrap64 ((i : Int) * row.getD i 0) = (i : Int) * row.getD i 0 := w64 (by omega) (by omega)
    have w2 : wrap64 (pd row i + (i : Int) * row.getD i 0) = pd row (i + 1) := by rw [pd_succ row i hi]; exact w64 (by omega) (by omega)
    simp only [spec_SumOfAreas.l0, rd_gd, w1, w2, a_suc i (by omega)]
    rw [if_pos (a_lt hi), if_pos (Int.natCast_nonneg i), if_pos (a_lt hi)]
    exact ih (i + 1) q (by omega) (by omega)
theorem spec_eq (n : Nat) (hn : n ≤ 15) (K : Nat) (hK : 40000000 ≤ K) : spec_SumOfAreas.f K (n : Int) = some (DD n, true) := by
  have hg : spec_reGood.f (n : Int) = some true := by
    unfold spec_reGood.f spec_l1In.f
    rw [if_pos (by omega), decide_eq_true (by omega)]; rfl
  unfold spec_SumOfAreas.f
  rw [hg]
  simp only [Option.bind_some, if_true]
  have g1 : Good 1 [[1]] := by
    refine ⟨rfl, fun i hi => ?_⟩
    obtain rfl : i = 0 := by omega
    exact ⟨rfl, fun x hx => by rw [List.mem_singleton.mp hx]; decide, rfl, rfl⟩
  obtain ⟨out, o1, o2⟩ := l0_ok n hn n 1 K [[1]] (by omega) (by omega) (by omega) g1
  unfold spec_reAreas.f
  rw [show spec_reAreas.l0 K (n : Int) [([1] : List Int)] 1 = some out from o1]
  simp only [Option.bind_some]
  obtain ⟨r1, r2, r3, r4⟩ := o2.2 n (by omega)
  have hsq := sq_b n (by omega)
  have f := so_l (out.getD n []) r2 (by rw [r3]; exact (S_b n (by omega)).2) (by rw [r1]; omega) (out.getD n []).length 0 K (by omega) (by rw [r1]; omega)
  rw [if_pos (Int.natCast_nonneg n), if_pos (a_lt (by rw [o2.1]; omega)), rdL1g]
  rw [pd_full, r4] at f
  exact f
theorem impl_eq : ∀ n : Nat, n < 16 → impl_SumOfAreas.f 100 (n : Int) = some (DD n, true) := by
  intro n hn
  obtain h | h | h | h | h | h | h | h | h | h | h | h | h | h | h | h : n = 0 ∨ n = 1 ∨ n = 2 ∨ n = 3 ∨ n = 4 ∨ n = 5 ∨ n = 6 ∨ n = 7 ∨ n = 8 ∨ n = 9 ∨ n = 10 ∨ n = 11 ∨ n = 12 ∨ n = 13 ∨ n = 14 ∨ n = 15 := by omega
  all_goals subst h; kernel_rfl
theorem FnExactSumOfAreas : laws_FnExactSumOfAreas.Pure := by
  intro a _
  obtain ⟨K, hK⟩ : ∃ K : Nat, 40000000 ≤ K := ⟨_, Nat.le_refl _⟩
  refine ⟨K, ?_⟩
  unfold laws_FnExactSumOfAreas.f
  by_cases h : 0 ≤ a ∧ a ≤ 15
  · obtain ⟨n, rfl⟩ := Int.eq_ofNat_of_zero_le h.1
    rw [spec_eq n (by omega) K hK, up' (fun k => impl_SumOfAreas.f k (n : Int)) (fun k => impl_SumOfAreas.mono _ k) (impl_eq n (by omega)) K (by omega)]
    simp
  · have e1 : spec_l1In.f a 0 15 = some false := by
      unfold spec_l1In.f
      by_cases h0 : a ≥ 0
      · rw [if_pos h0, decide_eq_false (fun h1 => h ⟨h0, h1⟩)]
      · rw [if_neg h0]
    have e2 : impl_in.f a 0 15 = some false := by
      unfold impl_in.f
      by_cases h0 : 0 ≤ a
      · rw [if_pos h0, decide_eq_false (fun h1 => h ⟨h0, h1⟩)]
      · rw [if_neg h0]
    simp [spec_SumOfAreas.f, spec_reGood.f, e1, impl_SumOfAreas.f, impl_isPairs.f, e2]

end Go.Proofs.Ytjammocipljgfaa.PuqFnExactSumOfAreas
namespace Go.Proofs.Ytjammocipljgfaa.Pure
open Go.Proofs.Ytjammocipljgfaa.QFnExactSumOfAreas
theorem FnExactSumOfAreas : laws_FnExactSumOfAreas.Pure := Go.Proofs.Ytjammocipljgfaa.PuqFnExactSumOfAreas.FnExactSumOfAreas
end Go.Proofs.Ytjammocipljgfaa.Pure
