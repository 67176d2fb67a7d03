/- For every list and number: OrderedOfRank of the program and of the reference answer alike. -/
import Derived.Test.YtgpebahbeccniaaQFnExactOrderedOfRankx8
import Derived.Test.YtgpebahbeccniaaZpl
namespace Go.Proofs.Ytgpebahbeccniaa.PuqFnExactOrderedOfRank
open Go.RowKit Go.Proofs.Ytgpebahbeccniaa.QFnExactOrderedOfRank Go.Proofs.YtgpebahbeccniaaW.PrintWords Go.Proofs.YtgpebahbeccniaaW.PrintLast Go.Proofs.YtgpebahbeccniaaPl
set_option linter.unusedVariables false

theorem eqI_self (l : List Int) (hl : l.length ≤ 1048577) (k : Nat) (hk : l.length < k) : laws_eqIntS.f k l l = some true := by
  unfold laws_eqIntS.f
  rw [if_pos rfl]
  exact (loop_range (fun k (_ : Unit) i => laws_eqIntS.l0 k l l i) l.length (fun _ _ => ()) (fun _ => true) (fun _ _ => True)
    (fun k i _ hi _ => by
      refine ⟨?_, trivial⟩
      have e3 : wrap64 ((i : Int) + 1) = ((i + 1 : Nat) : Int) := by rw [w64 (by omega) (by omega)]; omega
      simp only [laws_eqIntS.l0, e3, if_true]
      repeat rw [if_pos (by omega)])
    (fun k _ _ => by simp only [laws_eqIntS.l0]; rw [if_neg (by omega)]) k () trivial hk).1


theorem toI_eq (l : List Int) (hl : l.length ≤ 1048577) (k : Nat) (hk : l.length < k) : laws_toIntS.f k l = some l := by
  unfold laws_toIntS.f
  rw [if_pos (by omega), if_pos (by omega)]
  have := loop_range (fun k (xs : List Int) i => laws_toIntS.l0 k l xs i) l.length (fun xs i => xs.set i (rd l (i : Int))) id (fun i xs => xs.length = l.length ∧ ∀ j : Nat, j < i → rd xs (j : Int) = rd l (j : Int))
    (fun k i xs hi hI => by
      obtain ⟨h1, h2⟩ := hI
      refine ⟨?_, ?_, ?_⟩
      · have e3 : wrap64 ((i : Int) + 1) = ((i + 1 : Nat) : Int) := by rw [w64 (by omega) (by omega)]; omega
        simp only [laws_toIntS.l0, e3, Int.toNat_natCast]
        repeat rw [if_pos (by omega)]
      · simpa using h1
      · intro j hj
        by_cases e : j = i
        · subst e
          rw [rd_nat _ _ (by rw [List.length_set]; omega), List.getElem_set_self]
        · rw [rd_nat _ _ (by rw [List.length_set]; omega), List.getElem_set_ne (by omega), ← rd_nat _ _ (by omega)]
          exact h2 j (by omega))
    (fun k xs hI => by simp only [laws_toIntS.l0]; rw [if_neg (by omega)]; rfl) k (List.replicate l.length 0) ⟨by simp, fun j hj => by omega⟩ hk
  rw [show ((l.length : Int) : Int).toNat = l.length from Int.toNat_natCast _]
  obtain ⟨h1, h2, h3⟩ := this
  rw [show laws_toIntS.l0 k l (List.replicate l.length 0) 0 = _ from h1, id]
  congr 1
  refine List.ext_getElem h2 fun j ha hb => ?_
  have := h3 j hb
  rw [rd_nat _ _ hb, rd_nat _ _ ha] at this
  exact this


theorem falls_eq (a b c d : Int) (k : Nat) (hk : 5 < k) : spec_voFalls.f k [a, b, c, d] = some (decide (a ≥ b ∧ b ≥ c ∧ c ≥ d)) := by
  obtain ⟨k, rfl⟩ : ∃ m, k = m + 4 := ⟨k - 4, by omega⟩
  unfold spec_voFalls.f
  have w0 : wrap64 (1 - 1) = 0 := by rw [w64 (by omega) (by omega)]; rfl
  have w1 : wrap64 (2 - 1) = 1 := by rw [w64 (by omega) (by omega)]; rfl
  have w2 : wrap64 (3 - 1) = 2 := by rw [w64 (by omega) (by omega)]; rfl
  have v1 : wrap64 (1 + 1) = 2 := by rw [w64 (by omega) (by omega)]; rfl
  have v2 : wrap64 (2 + 1) = 3 := by rw [w64 (by omega) (by omega)]; rfl
  have v3 : wrap64 (3 + 1) = 4 := by rw [w64 (by omega) (by omega)]; rfl
  have r0 : rd [a, b, c, d] 0 = a := rfl
  have r1 : rd [a, b, c, d] 1 = b := rfl
  have r2 : rd [a, b, c, d] 2 = c := rfl
  have r3 : rd [a, b, c, d] 3 = d := rfl
  have l4 : (([a, b, c, d] : List Int).length : Int) = 4 := rfl
  simp only [spec_voFalls.l0, l4, w0, w1, w2, v1, v2, v3, r0, r1, r2, r3]
  simp only [show ((1 : Int) < 4) = True by simp, show ((2 : Int) < 4) = True by simp, show ((3 : Int) < 4) = True by simp, show ((0 : Int) < 4) = True by simp, show ((4 : Int) < 4) = False by simp, show ((0 : Int) ≤ 0) = True by simp, show ((0 : Int) ≤ 1) = True by simp, show ((0 : Int) ≤ 2) = True by simp, show ((0 : Int) ≤ 3) = True by simp, if_true, if_false]
  by_cases h1 : a < b
  · rw [if_pos h1, decide_eq_false (by omega)]
  · rw [if_neg h1]
    by_cases h2 : b < c
    · rw [if_pos h2, decide_eq_false (by omega)]
    · rw [if_neg h2]
      by_cases h3 : c < d
      · rw [if_pos h3, decide_eq_false (by omega)]
      · rw [if_neg h3, decide_eq_true (by omega)]

theorem ordered_eq (a b c d : Int) : impl_tally_isOrdered.f a b c d = some (decide (a ≥ b ∧ b ≥ c ∧ c ≥ d)) := by
  unfold impl_tally_isOrdered.f
  by_cases h1 : a ≥ b
  · rw [if_pos h1]
    by_cases h2 : b ≥ c
    · rw [if_pos h2]; congr 1; rw [decide_eq_decide]; omega
    · rw [if_neg h2, decide_eq_false (by omega)]
  · rw [if_neg h1, decide_eq_false (by omega)]


/-- In the range of a result's numbers. -/
def inB (x : Int) : Bool := decide (0 ≤ x ∧ x ≤ 16)
def isR (a b c d : Int) : Bool := (inB a && inB b && inB c && inB d) && (decide (a ≥ b ∧ b ≥ c ∧ c ≥ d) && decide (a + b + c + d ≤ 16))
def isRes : List Int → Bool
  | [a, b, c, d] => isR a b c d
  | _ => false
def resT : List Int → Int × Int × Int × Int × Bool
  | [a, b, c, d] => if (inB a && inB b && inB c && inB d) = true then (a, b, c, d, isR a b c d) else (0, 0, 0, 0, false)
  | _ => (0, 0, 0, 0, false)
theorem four (l : List Int) (h : l.length = 4) : ∃ a b c d, l = [a, b, c, d] := by
  match l, h with
  | [a, b, c, d], _ => exact ⟨a, b, c, d, rfl⟩
theorem resT_not (l : List Int) (h : ¬ l.length = 4) : resT l = (0, 0, 0, 0, false) := by
  match l, h with
  | [], _ => rfl
  | [_], _ => rfl
  | [_, _], _ => rfl
  | [_, _, _], _ => rfl
  | [_, _, _, _], h => exact absurd rfl h
  | _ :: _ :: _ :: _ :: _ :: _, _ => rfl
theorem isRes_not (l : List Int) (h : ¬ l.length = 4) : isRes l = false := by
  match l, h with
  | [], _ => rfl
  | [_], _ => rfl
  | [_, _], _ => rfl
  | [_, _, _], _ => rfl
  | [_, _, _, _], h => exact absurd rfl h
  | _ :: _ :: _ :: _ :: _ :: _, _ => rfl
theorem resT_snd (l : List Int) : (resT l).2.2.2.2 = isRes l := by
  by_cases h : l.length = 4
  · obtain ⟨a, b, c, d, rfl⟩ := four l h
    simp only [resT, isRes]
    by_cases h1 : (inB a && inB b && inB c && inB d) = true
    · rw [if_pos h1]
    · rw [if_neg h1]; unfold isR; rw [Bool.eq_false_iff.mpr h1]; rfl
  · rw [resT_not l h, isRes_not l h]

theorem l1In_eq (x : Int) : spec_l1In.f x 0 16 = some (inB x) := by
  unfold spec_l1In.f inB
  by_cases h : x ≥ 0
  · rw [if_pos h]; congr 1; rw [decide_eq_decide]; omega
  · rw [if_neg h, decide_eq_false (by omega)]
theorem res1_eq (x : Int) : impl_resultOf_1.f x = !inB x := by
  unfold impl_resultOf_1.f inB
  rw [Bool.decide_and]

section
variable (a b c d : Int)
theorem v1_ : wrap64 ((0 : Int) + 1) = 1 := by rw [w64 (by omega) (by omega)]; rfl
theorem v2_ : wrap64 ((1 : Int) + 1) = 2 := by rw [w64 (by omega) (by omega)]; rfl
theorem v3_ : wrap64 ((2 : Int) + 1) = 3 := by rw [w64 (by omega) (by omega)]; rfl
theorem v4_ : wrap64 ((3 : Int) + 1) = 4 := by rw [w64 (by omega) (by omega)]; rfl
theorem r0_ : rd [a, b, c, d] 0 = a := rfl
theorem r1_ : rd [a, b, c, d] 1 = b := rfl
theorem r2_ : rd [a, b, c, d] 2 = c := rfl
theorem r3_ : rd [a, b, c, d] 3 = d := rfl
theorem l4_ : (([a, b, c, d] : List Int).length : Int) = 4 := rfl
end
theorem c04 : ((0 : Int) < 4) = True := by simp
theorem c14 : ((1 : Int) < 4) = True := by simp
theorem c24 : ((2 : Int) < 4) = True := by simp
theorem c34 : ((3 : Int) < 4) = True := by simp
theorem c44 : ((4 : Int) < 4) = False := by simp
theorem c00 : ((0 : Int) ≤ 0) = True := by simp
theorem c01 : ((0 : Int) ≤ 1) = True := by simp
theorem c02 : ((0 : Int) ≤ 2) = True := by simp
theorem c03 : ((0 : Int) ≤ 3) = True := by simp

theorem l1All_eq (a b c d : Int) (k : Nat) (hk : 5 < k) : spec_l1All.f k [a, b, c, d] 0 16 = some (inB a && inB b && inB c && inB d) := by
  obtain ⟨k, rfl⟩ : ∃ m, k = m + 5 := ⟨k - 5, by omega⟩
  unfold spec_l1All.f
  simp only [spec_l1All.l0, l4_, v1_, v2_, v3_, v4_, r0_, r1_, r2_, r3_, c04, c14, c24, c34, c44, c00, c01, c02, c03, if_true, if_false, l1In_eq, Option.bind_some]
  cases inB a <;> cases inB b <;> cases inB c <;> cases inB d <;> rfl

theorem cont_eq (a b c d : Int) (k : Nat) (hk : 5 < k) : slices_ContainsFunc_int_int.f k [a, b, c, d] impl_resultOf_1.o = some (!(inB a && inB b && inB c && inB d)) := by
  obtain ⟨k, rfl⟩ : ∃ m, k = m + 5 := ⟨k - 5, by omega⟩
  unfold slices_ContainsFunc_int_int.f slices_IndexFunc_int_int.f
  simp only [slices_IndexFunc_int_int.l0, l4_, v1_, v2_, v3_, v4_, r0_, r1_, r2_, r3_, c04, c14, c24, c34, c44, c00, c01, c02, c03, if_true, if_false, res1_eq]
  cases inB a <;> cases inB b <;> cases inB c <;> cases inB d <;> rfl

theorem sum_eq (a b c d : Int) (h : (inB a && inB b && inB c && inB d) = true) : impl_tally_sum.f a b c d = some (a + b + c + d) := by
  unfold inB at h
  simp only [Bool.and_eq_true, decide_eq_true_eq] at h
  unfold impl_tally_sum.f
  rw [w64 (x := a + b) (by omega) (by omega), w64 (x := a + b + c) (by omega) (by omega), w64 (by omega) (by omega)]

theorem resultOf_eq (l : List Int) (k : Nat) (hk : 20 < k) : impl_resultOf.f k l = some (resT l) := by
  obtain ⟨k, rfl⟩ : ∃ m, k = m + 10 := ⟨k - 10, by omega⟩
  unfold impl_resultOf.f
  by_cases h : l.length = 4
  · obtain ⟨a, b, c, d, rfl⟩ := four l h
    rw [if_pos (l4_ a b c d), cont_eq a b c d _ (by omega), Option.bind_some]
    simp only [impl_resultOf.j0, resT, l4_, r0_, r1_, r2_, r3_]
    by_cases h1 : (inB a && inB b && inB c && inB d) = true
    · rw [if_pos h1, h1, if_neg (by decide), if_pos (by omega), ordered_eq, Option.bind_some, sum_eq a b c d h1]
      unfold isR
      rw [h1]
      by_cases h2 : a ≥ b ∧ b ≥ c ∧ c ≥ d
      · rw [decide_eq_true h2, if_pos rfl, Option.bind_some]; rfl
      · rw [decide_eq_false h2, if_neg (by decide)]; rfl
    · rw [if_neg h1, Bool.eq_false_iff.mpr h1]; rfl
  · rw [if_neg (by omega), resT_not l h]; rfl

theorem voResult_eq (l : List Int) (k : Nat) (hk : 20 < k) : spec_voResult.f k l = some (isRes l) := by
  obtain ⟨k, rfl⟩ : ∃ m, k = m + 10 := ⟨k - 10, by omega⟩
  unfold spec_voResult.f
  by_cases h : l.length = 4
  · obtain ⟨a, b, c, d, rfl⟩ := four l h
    rw [if_pos (l4_ a b c d), l1All_eq a b c d _ (by omega), Option.bind_some]
    show _ = some ((inB a && inB b && inB c && inB d) && (decide (a ≥ b ∧ b ≥ c ∧ c ≥ d) && decide (a + b + c + d ≤ 16)))
    by_cases h1 : (inB a && inB b && inB c && inB d) = true
    · rw [h1, if_pos rfl, falls_eq a b c d _ (by omega), Option.bind_some]
      by_cases h2 : a ≥ b ∧ b ≥ c ∧ c ≥ d
      · rw [decide_eq_true h2]
        have h1' := h1
        unfold inB at h1'
        simp only [Bool.and_eq_true, decide_eq_true_eq] at h1'
        simp only [spec_voResult.j0, Bool.not_true, Bool.false_eq_true, if_false, spec_voResult.l0, l4_, v1_, v2_, v3_, v4_, r0_, r1_, r2_, r3_, c04, c14, c24, c34, c44, c00, c01, c02, c03, if_true]
        rw [w64 (x := 0 + a) (by omega) (by omega), w64 (x := 0 + a + b) (by omega) (by omega), w64 (x := 0 + a + b + c) (by omega) (by omega), w64 (by omega) (by omega), Bool.true_and, Bool.true_and]
        congr 1; rw [decide_eq_decide]; omega
      · rw [decide_eq_false h2]; simp [spec_voResult.j0]
    · rw [Bool.eq_false_iff.mpr h1]; simp [spec_voResult.j0]
  · rw [if_neg (by omega), isRes_not l h]; simp [spec_voResult.j0]

theorem resT_of (a b c d : Int) (h : isR a b c d = true) : resT [a, b, c, d] = (a, b, c, d, true) := by
  have h1 : (inB a && inB b && inB c && inB d) = true := by unfold isR at h; rw [Bool.and_eq_true] at h; exact h.1
  simp only [resT]
  rw [if_pos h1, h]

/-! ### ordered votes between two counts, plainly -/
def so (a b c d : Int) : Prop := a ≥ b ∧ b ≥ c ∧ c ≥ d
instance (a b c d : Int) : Decidable (so a b c d) := inferInstanceAs (Decidable (_ ∧ _))
def I (p : Prop) [Decidable p] (x : Nat) : Nat := if p then x else 0
theorem I_pos {p : Prop} [Decidable p] (h : p) (x : Nat) : I p x = x := if_pos h
theorem I_neg {p : Prop} [Decidable p] (h : ¬ p) (x : Nat) : I p x = 0 := if_neg h
theorem I_zero (p : Prop) [Decidable p] : I p 0 = 0 := by unfold I; split <;> rfl
theorem I_add (p : Prop) [Decidable p] (x y : Nat) : I p (x + y) = I p x + I p y := by unfold I; split <;> rfl
theorem I_comm (p q : Prop) [Decidable p] [Decidable q] (x : Nat) : I p (I q x) = I q (I p x) := by unfold I; split <;> split <;> rfl
/-- In how many ways m votes lead from counts to counts, ordered behind each. -/
def A : Nat → Int → Int → Int → Int → Int → Int → Int → Int → Nat
  | 0, a, b, c, d, t0, t1, t2, t3 => I (a = t0 ∧ b = t1 ∧ c = t2 ∧ d = t3) 1
  | m + 1, a, b, c, d, t0, t1, t2, t3 => I (so (a + 1) b c d) (A m (a + 1) b c d t0 t1 t2 t3) + I (so a (b + 1) c d) (A m a (b + 1) c d t0 t1 t2 t3) + I (so a b (c + 1) d) (A m a b (c + 1) d t0 t1 t2 t3) + I (so a b c (d + 1)) (A m a b c (d + 1) t0 t1 t2 t3)
theorem A_succ (m : Nat) (a b c d t0 t1 t2 t3 : Int) : A (m + 1) a b c d t0 t1 t2 t3 = I (so (a + 1) b c d) (A m (a + 1) b c d t0 t1 t2 t3) + I (so a (b + 1) c d) (A m a (b + 1) c d t0 t1 t2 t3) + I (so a b (c + 1) d) (A m a b (c + 1) d t0 t1 t2 t3) + I (so a b c (d + 1)) (A m a b c (d + 1) t0 t1 t2 t3) := rfl
theorem A_zero (t0 t1 t2 t3 : Int) : ∀ (m : Nat) (a b c d : Int), (t0 < a ∨ t1 < b ∨ t2 < c ∨ t3 < d) → A m a b c d t0 t1 t2 t3 = 0
  | 0, a, b, c, d, h => I_neg (by omega) _
  | m + 1, a, b, c, d, h => by
    rw [A_succ, A_zero t0 t1 t2 t3 m (a + 1) b c d (by omega), A_zero t0 t1 t2 t3 m a (b + 1) c d (by omega), A_zero t0 t1 t2 t3 m a b (c + 1) d (by omega), A_zero t0 t1 t2 t3 m a b c (d + 1) (by omega), I_zero, I_zero, I_zero, I_zero]
theorem A_le (t0 t1 t2 t3 : Int) : ∀ (m : Nat) (a b c d : Int), A m a b c d t0 t1 t2 t3 ≤ 4 ^ m
  | 0, a, b, c, d => by unfold A I; split <;> omega
  | m + 1, a, b, c, d => by
    have hI : ∀ (p : Prop) [Decidable p] (x : Nat), I p x ≤ x := fun p _ x => by unfold I; split <;> omega
    have h1 := Nat.le_trans (hI (so (a + 1) b c d) _) (A_le t0 t1 t2 t3 m (a + 1) b c d)
    have h2 := Nat.le_trans (hI (so a (b + 1) c d) _) (A_le t0 t1 t2 t3 m a (b + 1) c d)
    have h3 := Nat.le_trans (hI (so a b (c + 1) d) _) (A_le t0 t1 t2 t3 m a b (c + 1) d)
    have h4 := Nat.le_trans (hI (so a b c (d + 1)) _) (A_le t0 t1 t2 t3 m a b c (d + 1))
    rw [A_succ, Nat.pow_succ]
    omega
theorem A_base {p q : Prop} [Decidable p] [Decidable q] {r s : Prop} [Decidable r] [Decidable s] (h : (p ∧ r) ↔ (q ∧ s)) : I p (I r 1) = I q (I s 1) := by
  unfold I
  by_cases h1 : p <;> by_cases h2 : q <;> by_cases h3 : r <;> by_cases h4 : s <;> simp_all
/-- The last vote, told apart. -/
theorem A_last (t0 t1 t2 t3 : Int) : ∀ (m : Nat) (t0 t1 t2 t3 a b c d : Int), so a b c d → so t0 t1 t2 t3 → A (m + 1) a b c d t0 t1 t2 t3 = I (so (t0 - 1) t1 t2 t3) (A m a b c d (t0 - 1) t1 t2 t3) + I (so t0 (t1 - 1) t2 t3) (A m a b c d t0 (t1 - 1) t2 t3) + I (so t0 t1 (t2 - 1) t3) (A m a b c d t0 t1 (t2 - 1) t3) + I (so t0 t1 t2 (t3 - 1)) (A m a b c d t0 t1 t2 (t3 - 1))
  | 0, t0, t1, t2, t3, a, b, c, d, h, ht => by
    rw [A_succ]
    unfold so at h ht
    have e0 : I (so (a + 1) b c d) (A 0 (a + 1) b c d t0 t1 t2 t3) = I (so (t0 - 1) t1 t2 t3) (A 0 a b c d (t0 - 1) t1 t2 t3) := A_base (by unfold so; omega)
    have e1 : I (so a (b + 1) c d) (A 0 a (b + 1) c d t0 t1 t2 t3) = I (so t0 (t1 - 1) t2 t3) (A 0 a b c d t0 (t1 - 1) t2 t3) := A_base (by unfold so; omega)
    have e2 : I (so a b (c + 1) d) (A 0 a b (c + 1) d t0 t1 t2 t3) = I (so t0 t1 (t2 - 1) t3) (A 0 a b c d t0 t1 (t2 - 1) t3) := A_base (by unfold so; omega)
    have e3 : I (so a b c (d + 1)) (A 0 a b c (d + 1) t0 t1 t2 t3) = I (so t0 t1 t2 (t3 - 1)) (A 0 a b c d t0 t1 t2 (t3 - 1)) := A_base (by unfold so; omega)
    rw [e0, e1, e2, e3]
  | m + 1, t0, t1, t2, t3, a, b, c, d, h, ht => by
    have go : ∀ a' b' c' d' : Int, I (so a' b' c' d') (A (m + 1) a' b' c' d' t0 t1 t2 t3) = I (so (t0 - 1) t1 t2 t3) (I (so a' b' c' d') (A m a' b' c' d' (t0 - 1) t1 t2 t3)) + I (so t0 (t1 - 1) t2 t3) (I (so a' b' c' d') (A m a' b' c' d' t0 (t1 - 1) t2 t3)) + I (so t0 t1 (t2 - 1) t3) (I (so a' b' c' d') (A m a' b' c' d' t0 t1 (t2 - 1) t3)) + I (so t0 t1 t2 (t3 - 1)) (I (so a' b' c' d') (A m a' b' c' d' t0 t1 t2 (t3 - 1))) := by
      intro a' b' c' d'
      by_cases hs : so a' b' c' d'
      · rw [I_pos hs, I_pos hs, I_pos hs, I_pos hs, I_pos hs]
        exact A_last t0 t1 t2 t3 m t0 t1 t2 t3 a' b' c' d' hs ht
      · rw [I_neg hs, I_neg hs, I_neg hs, I_neg hs, I_neg hs, I_zero, I_zero, I_zero, I_zero]
    rw [A_succ, go (a + 1) b c d, go a (b + 1) c d, go a b (c + 1) d, go a b c (d + 1), A_succ m a b c d (t0 - 1), A_succ m a b c d t0 (t1 - 1), A_succ m a b c d t0 t1 (t2 - 1), A_succ m a b c d t0 t1 t2 (t3 - 1)]
    simp only [I_add]
    omega

/-! ### the hooks' formula tells the same -/
def fct : Nat → Nat
  | 0 => 1
  | n + 1 => (n + 1) * fct n
def gt1 (x j : Nat) : Nat := bif Nat.ble x j then 0 else 1
def hkR (f : Nat → Nat) (n : Nat) : Nat → Nat
  | 0 => 1
  | j + 1 => (n - j + f j) * hkR f n j
/-- The number of votes, by the hooks. -/
def hN (a b c d : Nat) : Nat := fct (a + b + c + d) / (hkR (fun j => gt1 b j + gt1 c j + gt1 d j) a a * hkR (fun j => gt1 c j + gt1 d j) b b * hkR (fun j => gt1 d j) c c * hkR (fun _ => 0) d d)
def hv (a b c d : Nat) : Option Int := spec_voCount.f 400 [(a : Int), (b : Int), (c : Int), (d : Int)]
def okV1 (a b c d : Nat) : Bool := !(Nat.ble (a + b + c + d) 16) || (match hv a b c d with
  | some x => decide (x = (hN a b c d : Int))
  | none => false)
def okRec (a b c d : Nat) : Bool := !(Nat.ble (a + b + c + d) 16) || (bif Nat.beq a 0 then Nat.beq (hN a b c d) 1 else Nat.beq (hN a b c d) ((bif Nat.ble a b then 0 else hN (a - 1) b c d) + (bif Nat.ble b c then 0 else hN a (b - 1) c d) + (bif Nat.ble c d then 0 else hN a b (c - 1) d) + (bif Nat.ble d 0 then 0 else hN a b c (d - 1))))
def chkV1 : Bool := (List.range 17).all fun a => (List.range (a + 1)).all fun b => (List.range (b + 1)).all fun c => (List.range (c + 1)).all fun d => okV1 a b c d
theorem chkV1_true : chkV1 = true := by kernel_rfl
theorem okV1_of (a b c d : Nat) (h1 : a ≤ 16) (h2 : b ≤ a) (h3 : c ≤ b) (h4 : d ≤ c) : okV1 a b c d = true := by
  have h := chkV1_true
  unfold chkV1 at h
  rw [List.all_eq_true] at h
  have h := h a (List.mem_range.mpr (by omega))
  rw [List.all_eq_true] at h
  have h := h b (List.mem_range.mpr (by omega))
  rw [List.all_eq_true] at h
  have h := h c (List.mem_range.mpr (by omega))
  rw [List.all_eq_true] at h
  exact h d (List.mem_range.mpr (by omega))
def chkRec : Bool := (List.range 17).all fun a => (List.range (a + 1)).all fun b => (List.range (b + 1)).all fun c => (List.range (c + 1)).all fun d => okRec a b c d
theorem chkRec_true : chkRec = true := by kernel_rfl
theorem okRec_of (a b c d : Nat) (h1 : a ≤ 16) (h2 : b ≤ a) (h3 : c ≤ b) (h4 : d ≤ c) : okRec a b c d = true := by
  have h := chkRec_true
  unfold chkRec at h
  rw [List.all_eq_true] at h
  have h := h a (List.mem_range.mpr (by omega))
  rw [List.all_eq_true] at h
  have h := h b (List.mem_range.mpr (by omega))
  rw [List.all_eq_true] at h
  have h := h c (List.mem_range.mpr (by omega))
  rw [List.all_eq_true] at h
  exact h d (List.mem_range.mpr (by omega))
theorem so0 : so 0 0 0 0 := by unfold so; omega
theorem hook_eq : ∀ (n a b c d : Nat), a + b + c + d = n → n ≤ 16 → b ≤ a → c ≤ b → d ≤ c → hN a b c d = A n 0 0 0 0 (a : Int) (b : Int) (c : Int) (d : Int)
  | 0, a, b, c, d, h, hn, h1, h2, h3 => by
    have ha : a = 0 := by omega
    have hb : b = 0 := by omega
    have hc : c = 0 := by omega
    have hd : d = 0 := by omega
    subst ha hb hc hd
    rfl
  | n + 1, a, b, c, d, h, hn, h1, h2, h3 => by
    have hk := okRec_of a b c d (by omega) h1 h2 h3
    unfold okRec at hk
    rw [show Nat.ble (a + b + c + d) 16 = true from Nat.ble_eq_true_of_le (by omega), Bool.not_true, Bool.false_or, show Nat.beq a 0 = false from Bool.eq_false_iff.mpr fun e => by have := Nat.eq_of_beq_eq_true e; omega] at hk
    have hk := Nat.eq_of_beq_eq_true hk
    have go : ∀ a' b' c' d' : Nat, a' + b' + c' + d' = n → b' ≤ a' → c' ≤ b' → d' ≤ c' → hN a' b' c' d' = A n 0 0 0 0 (a' : Int) (b' : Int) (c' : Int) (d' : Int) := fun a' b' c' d' e1 e2 e3 e4 => hook_eq n a' b' c' d' e1 (by omega) e2 e3 e4
    have t0 : (bif Nat.ble a b then 0 else hN (a - 1) b c d) = I (so ((a : Int) - 1) b c d) (A n 0 0 0 0 ((a : Int) - 1) b c d) := by
      by_cases e : a ≤ b
      · rw [Nat.ble_eq_true_of_le e, I_neg (by unfold so; omega)]; rfl
      · rw [show Nat.ble a b = false from Bool.eq_false_iff.mpr fun e' => e (Nat.le_of_ble_eq_true e'), I_pos (by unfold so; omega), ← show ((a - 1 : Nat) : Int) = (a : Int) - 1 by omega]
        exact go (a - 1) b c d (by omega) (by omega) (by omega) (by omega)
    have t1 : (bif Nat.ble b c then 0 else hN a (b - 1) c d) = I (so (a : Int) ((b : Int) - 1) c d) (A n 0 0 0 0 (a : Int) ((b : Int) - 1) c d) := by
      by_cases e : b ≤ c
      · rw [Nat.ble_eq_true_of_le e, I_neg (by unfold so; omega)]; rfl
      · rw [show Nat.ble b c = false from Bool.eq_false_iff.mpr fun e' => e (Nat.le_of_ble_eq_true e'), I_pos (by unfold so; omega), ← show ((b - 1 : Nat) : Int) = (b : Int) - 1 by omega]
        exact go a (b - 1) c d (by omega) (by omega) (by omega) (by omega)
    have t2 : (bif Nat.ble c d then 0 else hN a b (c - 1) d) = I (so (a : Int) b ((c : Int) - 1) d) (A n 0 0 0 0 (a : Int) b ((c : Int) - 1) d) := by
      by_cases e : c ≤ d
      · rw [Nat.ble_eq_true_of_le e, I_neg (by unfold so; omega)]; rfl
      · rw [show Nat.ble c d = false from Bool.eq_false_iff.mpr fun e' => e (Nat.le_of_ble_eq_true e'), I_pos (by unfold so; omega), ← show ((c - 1 : Nat) : Int) = (c : Int) - 1 by omega]
        exact go a b (c - 1) d (by omega) (by omega) (by omega) (by omega)
    have t3 : (bif Nat.ble d 0 then 0 else hN a b c (d - 1)) = I (so (a : Int) b c ((d : Int) - 1)) (A n 0 0 0 0 (a : Int) b c ((d : Int) - 1)) := by
      by_cases e : d ≤ 0
      · rw [Nat.ble_eq_true_of_le e, I_pos (by unfold so; omega), A_zero _ _ _ _ n 0 0 0 0 (by omega)]; rfl
      · rw [show Nat.ble d 0 = false from Bool.eq_false_iff.mpr fun e' => e (Nat.le_of_ble_eq_true e'), I_pos (by unfold so; omega), ← show ((d - 1 : Nat) : Int) = (d : Int) - 1 by omega]
        exact go a b c (d - 1) (by omega) (by omega) (by omega) (by omega)
    rw [t0, t1, t2, t3] at hk
    rw [hk, A_last 0 0 0 0 n a b c d 0 0 0 0 so0 (by unfold so; omega)]
theorem voCount_eq (a b c d : Nat) (hn : a + b + c + d ≤ 16) (h1 : b ≤ a) (h2 : c ≤ b) (h3 : d ≤ c) : hv a b c d = some (A (a + b + c + d) 0 0 0 0 (a : Int) (b : Int) (c : Int) (d : Int) : Int) := by
  have h := okV1_of a b c d (by omega) h1 h2 h3
  unfold okV1 at h
  rw [show Nat.ble (a + b + c + d) 16 = true from Nat.ble_eq_true_of_le hn, Bool.not_true, Bool.false_or] at h
  rw [← hook_eq _ a b c d rfl hn h1 h2 h3]
  generalize hv a b c d = X at h ⊢
  match X, h with
  | some x, h => rw [of_decide_eq_true h]

/-! ### the program's memo tells the same -/
theorem one_eq (of : Int → Int → Int → Int → Option Int) (x y b0 b1 b2 b3 out : Int) (n : Nat) (hz : y < x → n = 0) (hof : x ≤ y → so b0 b1 b2 b3 → of b0 b1 b2 b3 = some (n : Int)) (ho0 : 0 ≤ out) (ho : out + n ≤ 9223372036854775807) :
    impl_votesOn_2.one of x y b0 b1 b2 b3 out = some (out + (I (so b0 b1 b2 b3) n : Nat)) := by
  unfold impl_votesOn_2.one
  by_cases h : x ≤ y
  · rw [if_pos h, ordered_eq, Option.bind_some]
    by_cases hs : so b0 b1 b2 b3
    · rw [decide_eq_true (show b0 ≥ b1 ∧ b1 ≥ b2 ∧ b2 ≥ b3 from hs), if_pos rfl, hof h hs, Option.bind_some, I_pos hs, w64 (by omega) (by omega)]
    · rw [decide_eq_false (show ¬ (b0 ≥ b1 ∧ b1 ≥ b2 ∧ b2 ≥ b3) from hs), if_neg (by decide), I_neg hs]; simp
  · rw [if_neg h, hz (by omega), I_zero]; simp
theorem g_eq (t0 t1 t2 t3 : Int) (h16 : t0 ≤ 16) (ht : so t0 t1 t2 t3) : ∀ (m : Nat), m ≤ 16 → ∀ (a b c d : Int) (k : Nat), m < k → so a b c d → 0 ≤ d → a ≤ t0 → b ≤ t1 → c ≤ t2 → d ≤ t3 → (t0 + t1 + t2 + t3) - (a + b + c + d) = m →
    impl_votesOn_2.g t0 t1 t2 t3 k a b c d = some (A m a b c d t0 t1 t2 t3 : Int) := by
  intro m
  induction m with
  | zero =>
    intro hm a b c d k hk hs h0 ha hb hc hd hsum
    obtain ⟨k, rfl⟩ : ∃ j, k = j + 1 := ⟨k - 1, by omega⟩
    have e : a = t0 ∧ b = t1 ∧ c = t2 ∧ d = t3 := by omega
    show (if a = t0 ∧ b = t1 ∧ c = t2 ∧ d = t3 then some 1 else _) = _
    rw [if_pos e]
    unfold A
    rw [I_pos e]; rfl
  | succ m ih =>
    intro hm a b c d k hk hs h0 ha hb hc hd hsum
    obtain ⟨k, rfl⟩ : ∃ j, k = j + 1 := ⟨k - 1, by omega⟩
    have e : ¬ (a = t0 ∧ b = t1 ∧ c = t2 ∧ d = t3) := by omega
    have hle : ∀ a b c d : Int, A m a b c d t0 t1 t2 t3 ≤ 4294967296 := fun a b c d => Nat.le_trans (A_le _ _ _ _ _ _ _ _ _) (by have : 4 ^ m ≤ 4 ^ 16 := Nat.pow_le_pow_right (by decide) (by omega); omega)
    have hI : ∀ (p : Prop) [Decidable p] (x : Nat), x ≤ 4294967296 → I p x ≤ 4294967296 := fun p _ x hx => by unfold I; split <;> omega
    unfold so at hs ht
    have wa : wrap64 (a + 1) = a + 1 := w64 (by omega) (by omega)
    have wb : wrap64 (b + 1) = b + 1 := w64 (by omega) (by omega)
    have wc : wrap64 (c + 1) = c + 1 := w64 (by omega) (by omega)
    have wd : wrap64 (d + 1) = d + 1 := w64 (by omega) (by omega)
    have n0 := hle (a + 1) b c d
    have n1 := hle a (b + 1) c d
    have n2 := hle a b (c + 1) d
    have n3 := hle a b c (d + 1)
    have q0 := hI (so (a + 1) b c d) _ n0
    have q1 := hI (so a (b + 1) c d) _ n1
    have q2 := hI (so a b (c + 1) d) _ n2
    have s0 := one_eq (impl_votesOn_2.g t0 t1 t2 t3 k) (a + 1) t0 (a + 1) b c d 0 (A m (a + 1) b c d t0 t1 t2 t3) (fun h => A_zero _ _ _ _ _ _ _ _ _ (by omega)) (fun h hs' => ih (by omega) _ _ _ _ k (by omega) hs' h0 h hb hc hd (by omega)) (by omega) (by omega)
    have s1 := one_eq (impl_votesOn_2.g t0 t1 t2 t3 k) (b + 1) t1 a (b + 1) c d (0 + (I (so (a + 1) b c d) (A m (a + 1) b c d t0 t1 t2 t3) : Nat)) (A m a (b + 1) c d t0 t1 t2 t3) (fun h => A_zero _ _ _ _ _ _ _ _ _ (by omega)) (fun h hs' => ih (by omega) _ _ _ _ k (by omega) hs' h0 ha h hc hd (by omega)) (by omega) (by omega)
    have s2 := one_eq (impl_votesOn_2.g t0 t1 t2 t3 k) (c + 1) t2 a b (c + 1) d (0 + (I (so (a + 1) b c d) (A m (a + 1) b c d t0 t1 t2 t3) : Nat) + (I (so a (b + 1) c d) (A m a (b + 1) c d t0 t1 t2 t3) : Nat)) (A m a b (c + 1) d t0 t1 t2 t3) (fun h => A_zero _ _ _ _ _ _ _ _ _ (by omega)) (fun h hs' => ih (by omega) _ _ _ _ k (by omega) hs' h0 ha hb h hd (by omega)) (by omega) (by omega)
    have s3 := one_eq (impl_votesOn_2.g t0 t1 t2 t3 k) (d + 1) t3 a b c (d + 1) (0 + (I (so (a + 1) b c d) (A m (a + 1) b c d t0 t1 t2 t3) : Nat) + (I (so a (b + 1) c d) (A m a (b + 1) c d t0 t1 t2 t3) : Nat) + (I (so a b (c + 1) d) (A m a b (c + 1) d t0 t1 t2 t3) : Nat)) (A m a b c (d + 1) t0 t1 t2 t3) (fun h => A_zero _ _ _ _ _ _ _ _ _ (by omega)) (fun h hs' => ih (by omega) _ _ _ _ k (by omega) hs' (by omega) ha hb hc h (by omega)) (by omega) (by omega)
    show (if a = t0 ∧ b = t1 ∧ c = t2 ∧ d = t3 then some 1 else impl_votesOn_2.sum (impl_votesOn_2.g t0 t1 t2 t3 k) t0 t1 t2 t3 a b c d 4 0) = _
    rw [if_neg e]
    simp only [impl_votesOn_2.sum, impl_votesOn_2.step, wa, wb, wc, wd, s0, s1, s2, s3, Option.bind_some]
    rw [A_succ]
    congr 1
    omega

/-! ### the reference's table tells the same -/
def code (a b c d : Int) : Int := ((a * 17 + b) * 17 + c) * 17 + d
theorem voSame_eq (a b c d t0 t1 t2 t3 : Int) (k : Nat) (hk : 5 < k) : spec_voSame.f k [a, b, c, d] [t0, t1, t2, t3] = some (decide (a = t0 ∧ b = t1 ∧ c = t2 ∧ d = t3)) := by
  obtain ⟨k, rfl⟩ : ∃ m, k = m + 5 := ⟨k - 5, by omega⟩
  unfold spec_voSame.f
  simp only [spec_voSame.l0, l4_, v1_, v2_, v3_, v4_, r0_, r1_, r2_, r3_, c04, c14, c24, c34, c44, c00, c01, c02, c03, if_true, if_false]
  by_cases h0 : a = t0
  · rw [if_pos h0]
    by_cases h1 : b = t1
    · rw [if_pos h1]
      by_cases h2 : c = t2
      · rw [if_pos h2]
        by_cases h3 : d = t3
        · rw [if_pos h3, decide_eq_true ⟨h0, h1, h2, h3⟩]
        · rw [if_neg h3, decide_eq_false (by omega)]
      · rw [if_neg h2, decide_eq_false (by omega)]
    · rw [if_neg h1, decide_eq_false (by omega)]
  · rw [if_neg h0, decide_eq_false (by omega)]
theorem voCode_eq (a b c d : Int) (h0 : 0 ≤ a ∧ a ≤ 17) (h1 : 0 ≤ b ∧ b ≤ 17) (h2 : 0 ≤ c ∧ c ≤ 17) (h3 : 0 ≤ d ∧ d ≤ 17) (k : Nat) (hk : 5 < k) : spec_voCode.f k [a, b, c, d] = some (code a b c d) := by
  obtain ⟨k, rfl⟩ : ∃ m, k = m + 5 := ⟨k - 5, by omega⟩
  unfold spec_voCode.f
  simp only [spec_voCode.l0, l4_, v1_, v2_, v3_, v4_, r0_, r1_, r2_, r3_, c04, c14, c24, c34, c44, c00, c01, c02, c03, if_true, if_false]
  have e0 : wrap64 (0 * 17) = 0 := by rw [w64 (by omega) (by omega)]; rfl
  have e1 : wrap64 (0 + a) = a := by rw [w64 (by omega) (by omega)]; omega
  have e2 : wrap64 (a * 17) = a * 17 := w64 (by omega) (by omega)
  have e3 : wrap64 (a * 17 + b) = a * 17 + b := w64 (by omega) (by omega)
  have e4 : wrap64 ((a * 17 + b) * 17) = (a * 17 + b) * 17 := w64 (by omega) (by omega)
  have e5 : wrap64 ((a * 17 + b) * 17 + c) = (a * 17 + b) * 17 + c := w64 (by omega) (by omega)
  have e6 : wrap64 (((a * 17 + b) * 17 + c) * 17) = ((a * 17 + b) * 17 + c) * 17 := w64 (by omega) (by omega)
  have e7 : wrap64 (((a * 17 + b) * 17 + c) * 17 + d) = ((a * 17 + b) * 17 + c) * 17 + d := w64 (by omega) (by omega)
  rw [e0, e1, e2, e3, e4, e5, e6, e7]
  rfl
theorem own_eq (l : List Int) (h : l.length < 17592186044416) : spec_l1Own.f l = some l := by
  unfold spec_l1Own.f
  rw [Option.bind_some, if_pos (by simpa using h)]; rfl
theorem rd_set_same (x : List Int) (q v : Int) (h0 : 0 ≤ q) (h1 : q < x.length) : rd (x.set q.toNat v) q = v := by
  have e : q = (q.toNat : Int) := by omega
  rw [e, Int.toNat_natCast, rd_nat _ _ (by rw [List.length_set]; omega), List.getElem_set_self]
theorem rd_set_other (x : List Int) (q p v : Int) (h0 : 0 ≤ q) (h1 : q < x.length) (h2 : 0 ≤ p) (h : q ≠ p) : rd (x.set p.toNat v) q = rd x q := by
  have e : q = (q.toNat : Int) := by omega
  rw [e, rd_nat _ _ (by rw [List.length_set]; omega), List.getElem_set_ne (by omega), ← rd_nat _ _ (by omega)]
/-- The table holds what is right at all counts whose number is beyond lo. -/
def Tab (t0 t1 t2 t3 lo : Int) (x : List Int) : Prop := x.length = 83521 ∧ ∀ p q r s : Int, so p q r s → 0 ≤ s → p ≤ t0 → q ≤ t1 → r ≤ t2 → s ≤ t3 → lo < code p q r s → rd x (code p q r s) = (A (t0 + t1 + t2 + t3 - (p + q + r + s)).toNat p q r s t0 t1 t2 t3 : Int)
theorem code_inj {a b c d p q r s : Int} (h0 : 0 ≤ b ∧ b ≤ 16) (h1 : 0 ≤ c ∧ c ≤ 16) (h2 : 0 ≤ d ∧ d ≤ 16) (g0 : 0 ≤ q ∧ q ≤ 16) (g1 : 0 ≤ r ∧ r ≤ 16) (g2 : 0 ≤ s ∧ s ≤ 16) (h : code a b c d = code p q r s) : a = p ∧ b = q ∧ c = r ∧ d = s := by
  unfold code at h
  omega
theorem Tab.put {t0 t1 t2 t3 : Int} (ht : t0 ≤ 16 ∧ t1 ≤ 16 ∧ t2 ≤ 16 ∧ t3 ≤ 16) {x : List Int} {a b c d v : Int} (hs : so a b c d) (h0 : 0 ≤ d) (ha : a ≤ t0) (hb : b ≤ t1) (hc : c ≤ t2) (hd : d ≤ t3) (h : Tab t0 t1 t2 t3 (code a b c d) x) (hv : v = (A (t0 + t1 + t2 + t3 - (a + b + c + d)).toNat a b c d t0 t1 t2 t3 : Int)) :
    Tab t0 t1 t2 t3 (code a b c (d - 1)) (x.set (code a b c d).toNat v) := by
  obtain ⟨h1, h2⟩ := h
  have hc0 : 0 ≤ code a b c d ∧ code a b c d < 83521 := by unfold code; unfold so at hs; omega
  refine ⟨by rw [List.length_set]; exact h1, fun p q r s hps hs0 hp hq hr hs3 hlo => ?_⟩
  have hc1 : 0 ≤ code p q r s ∧ code p q r s < 83521 := by unfold code; unfold so at hps; omega
  by_cases e : code p q r s = code a b c d
  · have e' := code_inj (by unfold so at hps; omega) (by unfold so at hps; omega) (by omega) (by unfold so at hs; omega) (by unfold so at hs; omega) (by omega) e
    obtain ⟨rfl, rfl, rfl, rfl⟩ := e'
    rw [rd_set_same _ _ _ hc1.1 (by omega), hv]
  · rw [rd_set_other _ _ _ _ hc1.1 (by omega) hc0.1 e]
    exact h2 p q r s hps hs0 hp hq hr hs3 (by unfold code at hlo e ⊢; omega)
section
variable (t0 t1 t2 t3 : Int) (ht : so t0 t1 t2 t3) (h16 : t0 ≤ 16) (ht0 : 0 ≤ t3) (hsum : t0 + t1 + t2 + t3 ≤ 16) (r : List Int) (x : List Int) (a b c d : Int)
theorem mw1 (x : Int) (h0 : -9 ≤ x) (h1 : x ≤ 99) : wrap64 (x - 1) = x - 1 := w64 (by omega) (by omega)
theorem mw2 (x : Int) (h0 : -9 ≤ x) (h1 : x ≤ 99) : wrap64 (x + 1) = x + 1 := w64 (by omega) (by omega)
theorem s0_ (v : Int) : ([a, b, c, d] : List Int).set (0 : Int).toNat v = [v, b, c, d] := rfl
theorem s1_ (v : Int) : ([a, b, c, d] : List Int).set (1 : Int).toNat v = [a, v, c, d] := rfl
theorem s2_ (v : Int) : ([a, b, c, d] : List Int).set (2 : Int).toNat v = [a, b, v, d] := rfl
theorem s3_ (v : Int) : ([a, b, c, d] : List Int).set (3 : Int).toNat v = [a, b, c, v] := rfl
include ht h16 ht0 hsum in
/-- One entry that is no end: the sum over what goes on. -/
theorem l4_eq (hx : Tab t0 t1 t2 t3 (code a b c d) x) (hs : so a b c d) (h0 : 0 ≤ d) (ha : a ≤ t0) (hb : b ≤ t1) (hc : c ≤ t2) (hd : d ≤ t3) (hne : ¬ (a = t0 ∧ b = t1 ∧ c = t2 ∧ d = t3)) (k : Nat) :
    spec_voTable.l4 (k + 30) [t0, t1, t2, t3] x a b c d [a, b, c, d] 0 4 0 = spec_voTable.l3 (k + 21) [t0, t1, t2, t3] (x.set (code a b c d).toNat (A (t0 + t1 + t2 + t3 - (a + b + c + d)).toNat a b c d t0 t1 t2 t3 : Int)) a b c (d - 1) := by
  have hs' := hs
  have ht' := ht
  unfold so at hs' ht'
  obtain ⟨m, hm⟩ : ∃ m : Nat, (t0 + t1 + t2 + t3 - (a + b + c + d)).toNat = m + 1 := ⟨(t0 + t1 + t2 + t3 - (a + b + c + d)).toNat - 1, by omega⟩
  have hle : ∀ a b c d : Int, A m a b c d t0 t1 t2 t3 ≤ 4294967296 := fun a b c d => Nat.le_trans (A_le _ _ _ _ _ _ _ _ _) (by have : 4 ^ m ≤ 4 ^ 16 := Nat.pow_le_pow_right (by decide) (by omega); omega)
  have hI : ∀ (p : Prop) [Decidable p] (x : Nat), x ≤ 4294967296 → I p x ≤ 4294967296 := fun p _ x hx => by unfold I; split <;> omega
  have look : ∀ p q r s : Int, so p q r s → 0 ≤ s → p ≤ t0 → q ≤ t1 → r ≤ t2 → s ≤ t3 → p + q + r + s = a + b + c + d + 1 → code a b c d < code p q r s → rd x (code p q r s) = (A m p q r s t0 t1 t2 t3 : Int) := fun p q r s h1 h2 h3 h4 h5 h6 h7 h8 => by
    rw [hx.2 p q r s h1 h2 h3 h4 h5 h6 h8, show (t0 + t1 + t2 + t3 - (p + q + r + s)).toNat = m by omega]
  have cd : ∀ p q r s : Int, 0 ≤ p ∧ p ≤ 17 → 0 ≤ q ∧ q ≤ 17 → 0 ≤ r ∧ r ≤ 17 → 0 ≤ s ∧ s ≤ 17 → ∀ j : Nat, spec_voCode.f (j + 6) [p, q, r, s] = some (code p q r s) := fun p q r s h0 h1 h2 h3 j => voCode_eq p q r s h0 h1 h2 h3 _ (by omega)
  have hl := hx.1
  have hw : ∀ (v : Int) (p : Prop) [Decidable p] (n : Nat), 0 ≤ v → v ≤ 12884901888 → n ≤ 4294967296 → wrap64 (v + (n : Int)) = v + (n : Int) := fun v p _ n h1 h2 h3 => w64 (by omega) (by omega)
  have R0 : ∀ v : Int, 0 ≤ v → v ≤ 12884901888 → spec_voTable.l4 (k + 30) [t0, t1, t2, t3] x a b c d [a, b, c, d] v 4 0 = spec_voTable.l4 (k + 28) [t0, t1, t2, t3] x a b c d [a, b, c, d] (v + (I (so (a + 1) b c d) (A m (a + 1) b c d t0 t1 t2 t3) : Nat)) 4 1 := by
    intro v hv0 hv1
    rw [spec_voTable.l4]; simp only [l4_, r0_, r1_, r2_, r3_, c04, c14, c24, c34, c44, c00, c01, c02, c03, if_true, if_false, v1_]
    by_cases h : a < t0
    · rw [if_pos h]
      have hso : so (a + 1) b c d := by unfold so; omega
      rw [spec_voTable.j5]; simp only [if_true, own_eq [a, b, c, d] (by simp), Option.bind_some, c00, l4_, c04, r0_, s0_, mw2 a (by omega) (by omega), cd (a + 1) b c d (by omega) (by omega) (by omega) (by omega)]
      rw [if_pos (by unfold code; omega), if_pos (by rw [hl]; unfold code; omega), look (a + 1) b c d hso h0 (by omega) hb hc hd (by omega) (by unfold code; omega), hw v True _ hv0 hv1 (hle _ _ _ _), I_pos hso, v1_]
    · rw [if_neg h]
      rw [spec_voTable.j5]
      rw [if_neg (by decide), A_zero _ _ _ _ m _ _ _ _ (by omega), I_zero, v1_]; simp
  have R1 : ∀ v : Int, 0 ≤ v → v ≤ 12884901888 → spec_voTable.l4 (k + 28) [t0, t1, t2, t3] x a b c d [a, b, c, d] v 4 1 = spec_voTable.l4 (k + 26) [t0, t1, t2, t3] x a b c d [a, b, c, d] (v + (I (so a (b + 1) c d) (A m a (b + 1) c d t0 t1 t2 t3) : Nat)) 4 2 := by
    intro v hv0 hv1
    have e1 : wrap64 (1 - 1) = 0 := by rw [w64 (by omega) (by omega)]; rfl
    rw [spec_voTable.l4]; simp only [l4_, r0_, r1_, r2_, r3_, c04, c14, c24, c34, c44, c00, c01, c02, c03, if_true, if_false, v2_, e1]
    rw [if_neg (show ¬ (1 : Int) = 0 by decide)]
    by_cases h : b < t1
    · rw [if_pos h]
      by_cases h2 : a > b
      · have hso : so a (b + 1) c d := by unfold so; omega
        rw [decide_eq_true h2]
        rw [spec_voTable.j5]; simp only [if_true, own_eq [a, b, c, d] (by simp), Option.bind_some, c01, l4_, c14, r1_, s1_, mw2 b (by omega) (by omega), cd a (b + 1) c d (by omega) (by omega) (by omega) (by omega)]
        rw [if_pos (by unfold code; omega), if_pos (by rw [hl]; unfold code; omega), look a (b + 1) c d hso h0 (by omega) (by omega) hc hd (by omega) (by unfold code; omega), hw v True _ hv0 hv1 (hle _ _ _ _), I_pos hso, v2_]
      · rw [decide_eq_false h2]
        rw [spec_voTable.j5]
        rw [if_neg (by decide), I_neg (by unfold so; omega), v2_]; simp
    · rw [if_neg h]
      rw [spec_voTable.j5]
      rw [if_neg (by decide), A_zero _ _ _ _ m _ _ _ _ (by omega), I_zero, v2_]; simp
  have R2 : ∀ v : Int, 0 ≤ v → v ≤ 12884901888 → spec_voTable.l4 (k + 26) [t0, t1, t2, t3] x a b c d [a, b, c, d] v 4 2 = spec_voTable.l4 (k + 24) [t0, t1, t2, t3] x a b c d [a, b, c, d] (v + (I (so a b (c + 1) d) (A m a b (c + 1) d t0 t1 t2 t3) : Nat)) 4 3 := by
    intro v hv0 hv1
    have e1 : wrap64 (2 - 1) = 1 := by rw [w64 (by omega) (by omega)]; rfl
    rw [spec_voTable.l4]; simp only [l4_, r0_, r1_, r2_, r3_, c04, c14, c24, c34, c44, c00, c01, c02, c03, if_true, if_false, v3_, e1]
    rw [if_neg (show ¬ (2 : Int) = 0 by decide)]
    by_cases h : c < t2
    · rw [if_pos h]
      by_cases h2 : b > c
      · have hso : so a b (c + 1) d := by unfold so; omega
        rw [decide_eq_true h2]
        rw [spec_voTable.j5]; simp only [if_true, own_eq [a, b, c, d] (by simp), Option.bind_some, c02, l4_, c24, r2_, s2_, mw2 c (by omega) (by omega), cd a b (c + 1) d (by omega) (by omega) (by omega) (by omega)]
        rw [if_pos (by unfold code; omega), if_pos (by rw [hl]; unfold code; omega), look a b (c + 1) d hso h0 (by omega) (by omega) (by omega) hd (by omega) (by unfold code; omega), hw v True _ hv0 hv1 (hle _ _ _ _), I_pos hso, v3_]
      · rw [decide_eq_false h2]
        rw [spec_voTable.j5]
        rw [if_neg (by decide), I_neg (by unfold so; omega), v3_]; simp
    · rw [if_neg h]
      rw [spec_voTable.j5]
      rw [if_neg (by decide), A_zero _ _ _ _ m _ _ _ _ (by omega), I_zero, v3_]; simp
  have R3 : ∀ v : Int, 0 ≤ v → v ≤ 12884901888 → spec_voTable.l4 (k + 24) [t0, t1, t2, t3] x a b c d [a, b, c, d] v 4 3 = spec_voTable.l4 (k + 22) [t0, t1, t2, t3] x a b c d [a, b, c, d] (v + (I (so a b c (d + 1)) (A m a b c (d + 1) t0 t1 t2 t3) : Nat)) 4 4 := by
    intro v hv0 hv1
    have e1 : wrap64 (3 - 1) = 2 := by rw [w64 (by omega) (by omega)]; rfl
    rw [spec_voTable.l4]; simp only [l4_, r0_, r1_, r2_, r3_, c04, c14, c24, c34, c44, c00, c01, c02, c03, if_true, if_false, v4_, e1]
    rw [if_neg (show ¬ (3 : Int) = 0 by decide)]
    by_cases h : d < t3
    · rw [if_pos h]
      by_cases h2 : c > d
      · have hso : so a b c (d + 1) := by unfold so; omega
        rw [decide_eq_true h2]
        rw [spec_voTable.j5]; simp only [if_true, own_eq [a, b, c, d] (by simp), Option.bind_some, c03, l4_, c34, r3_, s3_, mw2 d (by omega) (by omega), cd a b c (d + 1) (by omega) (by omega) (by omega) (by omega)]
        rw [if_pos (by unfold code; omega), if_pos (by rw [hl]; unfold code; omega), look a b c (d + 1) hso (by omega) (by omega) (by omega) (by omega) (by omega) (by omega) (by unfold code; omega), hw v True _ hv0 hv1 (hle _ _ _ _), I_pos hso, v4_]
      · rw [decide_eq_false h2]
        rw [spec_voTable.j5]
        rw [if_neg (by decide), I_neg (by unfold so; omega), v4_]; simp
    · rw [if_neg h]
      rw [spec_voTable.j5]
      rw [if_neg (by decide), A_zero _ _ _ _ m _ _ _ _ (by omega), I_zero, v4_]; simp
  have q0 := hI (so (a + 1) b c d) _ (hle (a + 1) b c d)
  have q1 := hI (so a (b + 1) c d) _ (hle a (b + 1) c d)
  have q2 := hI (so a b (c + 1) d) _ (hle a b (c + 1) d)
  rw [R0 0 (by omega) (by omega), R1 _ (by omega) (by omega), R2 _ (by omega) (by omega), R3 _ (by omega) (by omega)]
  rw [spec_voTable.l4]; simp only [c44, if_false, cd a b c d (by omega) (by omega) (by omega) (by omega), Option.bind_some]
  rw [if_pos (by unfold code; omega), if_pos (by rw [hl]; unfold code; omega), mw1 d (by omega) (by omega), hm, A_succ]
  congr 2
  omega
end

/-! ### the table is filled -/
theorem least_eq (x y : Int) : ∃ m, spec_l1Least.f x y = some m ∧ m ≤ x ∧ m ≤ y ∧ (m = x ∨ m = y) := by
  unfold spec_l1Least.f
  by_cases h : x < y
  · exact ⟨x, by rw [if_pos h], by omega, by omega, .inl rfl⟩
  · exact ⟨y, by rw [if_neg h], by omega, by omega, .inr rfl⟩
theorem codeE3 (a b c : Int) : code a b (c - 1) 16 = code a b c (-1) := by unfold code; omega
theorem codeE2 (a b : Int) : code a (b - 1) 16 16 = code a b (-1) 16 := by unfold code; omega
theorem codeE1 (a : Int) : code (a - 1) 16 16 16 = code a (-1) 16 16 := by unfold code; omega
theorem codeE0 : code (-1) 16 16 16 = -1 := by unfold code; omega
theorem cmp17 (X Y m s : Int) (hs : 0 ≤ s ∧ s ≤ 16) (hm : 0 ≤ m) (h : X * 17 + m < Y * 17 + s) (h' : Y * 17 + s ≤ X * 17 + 16) : X = Y ∧ m < s := by omega
theorem eq17 (U V c r : Int) (hc : 0 ≤ c ∧ c ≤ 16) (hr : 0 ≤ r ∧ r ≤ 16) (h : U * 17 + c = V * 17 + r) : U = V ∧ c = r := by omega
theorem lt17 (X Y s : Int) (hs : s ≤ 16) (h : X * 17 + 16 < Y * 17 + s) : X < Y := by omega
theorem le17 (X Y s : Int) (hs : 0 ≤ s) (h : Y * 17 + s ≤ X * 17 + 16) : Y ≤ X := by omega
theorem up3 {a b c m p q r s t : Int} (hm : m = c ∨ m = t) (hc : 0 ≤ c ∧ c ≤ 16) (ht : 0 ≤ t) (hr : 0 ≤ r ∧ r ≤ 16) (hs : 0 ≤ s ∧ s ≤ 16) (h1 : s ≤ r) (h2 : s ≤ t) (h : code a b c m < code p q r s) : code a b c 16 < code p q r s := by
  unfold code at h ⊢
  by_cases h3 : (((a * 17 + b) * 17 + c) * 17 + 16) < (((p * 17 + q) * 17 + r) * 17 + s)
  · exact h3
  · replace h3 := Int.not_lt.mp h3
    obtain ⟨e1, e2⟩ := cmp17 _ _ _ _ hs (by rcases hm with h | h <;> rw [h]; exact hc.1; exact ht) h h3
    obtain ⟨_, e3⟩ := eq17 _ _ _ _ hc hr e1
    rcases hm with h | h <;> omega
theorem up2 {a b m p q r s t : Int} (hm : m = b ∨ m = t) (hb : 0 ≤ b ∧ b ≤ 16) (ht : 0 ≤ t) (hq : 0 ≤ q ∧ q ≤ 16) (hr : 0 ≤ r ∧ r ≤ 16) (hs : 0 ≤ s ∧ s ≤ 16) (h1 : r ≤ q) (h2 : r ≤ t) (h : code a b m 16 < code p q r s) : code a b 16 16 < code p q r s := by
  unfold code at h ⊢
  by_cases h3 : (((a * 17 + b) * 17 + 16) * 17 + 16) < (((p * 17 + q) * 17 + r) * 17 + s)
  · exact h3
  · replace h3 := Int.not_lt.mp h3
    have k1 := lt17 _ _ _ hs.2 h
    have k2 := le17 _ _ _ hs.1 h3
    obtain ⟨e1, e2⟩ := cmp17 _ _ _ _ hr (by rcases hm with h | h <;> rw [h]; exact hb.1; exact ht) k1 k2
    obtain ⟨_, e3⟩ := eq17 _ _ _ _ hb hq e1
    rcases hm with h | h <;> omega
theorem up1 {a m p q r s t : Int} (hm : m = a ∨ m = t) (ha : 0 ≤ a) (ht : 0 ≤ t) (hq : 0 ≤ q ∧ q ≤ 16) (hr : 0 ≤ r ∧ r ≤ 16) (hs : 0 ≤ s ∧ s ≤ 16) (h1 : q ≤ p) (h2 : q ≤ t) (h : code a m 16 16 < code p q r s) : code a 16 16 16 < code p q r s := by
  unfold code at h ⊢
  by_cases h3 : (((a * 17 + 16) * 17 + 16) * 17 + 16) < (((p * 17 + q) * 17 + r) * 17 + s)
  · exact h3
  · replace h3 := Int.not_lt.mp h3
    have k1 := lt17 _ _ _ hr.2 (lt17 _ _ _ hs.2 h)
    have k2 := le17 _ _ _ hr.1 (le17 _ _ _ hs.1 h3)
    obtain ⟨e1, e2⟩ := cmp17 _ _ _ _ hq (by rcases hm with h | h <;> rw [h]; exact ha; exact ht) k1 k2
    rcases hm with h | h <;> omega
theorem top0 {t p q r s : Int} (hp : p ≤ t) (hq : q ≤ 16) (hr : r ≤ 16) (hs : s ≤ 16) (h : code t 16 16 16 < code p q r s) : False := by unfold code at h; omega
section
variable (t0 t1 t2 t3 : Int) (ht : so t0 t1 t2 t3) (h16 : t0 ≤ 16) (ht0 : 0 ≤ t3) (hsum : t0 + t1 + t2 + t3 ≤ 16)
include ht h16 ht0 hsum
theorem l3_fill (a b c : Int) (hc0 : 0 ≤ c) (hcb : c ≤ b) (hba : b ≤ a) (ha : a ≤ t0) (hb : b ≤ t1) (hc : c ≤ t2)
    (next : ∀ x, Tab t0 t1 t2 t3 (code a b (c - 1) 16) x → ∃ r, Ev (fun k => spec_voTable.l2 k [t0, t1, t2, t3] x a b (c - 1)) r ∧ Tab t0 t1 t2 t3 (-1) r) :
    ∀ (n : Nat) (d : Int) (x : List Int), d + 1 = n → d ≤ c → d ≤ t3 → Tab t0 t1 t2 t3 (code a b c d) x → ∃ r, Ev (fun k => spec_voTable.l3 k [t0, t1, t2, t3] x a b c d) r ∧ Tab t0 t1 t2 t3 (-1) r
  | 0, d, x, hn, hdc, hd, hx => by
    obtain rfl : d = -1 := by omega
    obtain ⟨r, ⟨K, hK⟩, hp⟩ := next x (by rw [codeE3 a b c]; exact hx)
    refine ⟨r, ⟨K + 1, fun k hk => ?_⟩, hp⟩
    obtain ⟨k, rfl⟩ : ∃ j, k = j + 1 := ⟨k - 1, by omega⟩
    show spec_voTable.l3 (k + 1) [t0, t1, t2, t3] x a b c (-1) = some r
    rw [spec_voTable.l3, if_neg (by omega), mw1 c (by unfold so at ht; omega) (by unfold so at ht; omega)]
    exact hK k (by omega)
  | n + 1, d, x, hn, hdc, hd, hx => by
    have hs : so a b c d := by unfold so; omega
    have ht' := ht
    unfold so at ht'
    have hcd : ∀ j : Nat, spec_voCode.f (j + 6) [a, b, c, d] = some (code a b c d) := fun j => voCode_eq a b c d (by omega) (by omega) (by omega) (by omega) _ (by omega)
    by_cases e : a = t0 ∧ b = t1 ∧ c = t2 ∧ d = t3
    · have hT := Tab.put (v := 1) ⟨h16, by omega, by omega, by omega⟩ hs (by omega) ha hb hc hd hx (by rw [show (t0 + t1 + t2 + t3 - (a + b + c + d)).toNat = 0 by omega]; unfold A; rw [I_pos e]; rfl)
      obtain ⟨r, ⟨K, hK⟩, hp⟩ := l3_fill a b c hc0 hcb hba ha hb hc next n (d - 1) _ (by omega) (by omega) (by omega) hT
      refine ⟨r, ⟨K + 40, fun k hk => ?_⟩, hp⟩
      obtain ⟨k, rfl⟩ : ∃ j, k = (j + 6) + 1 := ⟨k - 7, by omega⟩
      show spec_voTable.l3 (k + 6 + 1) [t0, t1, t2, t3] x a b c d = some r
      rw [spec_voTable.l3, if_pos (by omega), Option.bind_some, voSame_eq _ _ _ _ _ _ _ _ _ (by omega), Option.bind_some, decide_eq_true e, if_pos rfl, hcd k, Option.bind_some, if_pos (by unfold code; omega), if_pos (by rw [hx.1]; unfold code; omega), mw1 d (by omega) (by omega)]
      exact hK _ (by omega)
    · have hT := Tab.put (v := (A (t0 + t1 + t2 + t3 - (a + b + c + d)).toNat a b c d t0 t1 t2 t3 : Int)) ⟨h16, by omega, by omega, by omega⟩ hs (by omega) ha hb hc hd hx rfl
      obtain ⟨r, ⟨K, hK⟩, hp⟩ := l3_fill a b c hc0 hcb hba ha hb hc next n (d - 1) _ (by omega) (by omega) (by omega) hT
      refine ⟨r, ⟨K + 40, fun k hk => ?_⟩, hp⟩
      obtain ⟨k, rfl⟩ : ∃ j, k = (j + 30) + 1 := ⟨k - 31, by omega⟩
      show spec_voTable.l3 (k + 30 + 1) [t0, t1, t2, t3] x a b c d = some r
      rw [spec_voTable.l3, if_pos (by omega), Option.bind_some, voSame_eq _ _ _ _ _ _ _ _ _ (by omega), Option.bind_some, decide_eq_false e, if_neg (by decide), l4_, l4_eq t0 t1 t2 t3 ht h16 ht0 hsum x a b c d hx hs (by omega) ha hb hc hd e k]
      exact hK _ (by omega)
theorem l2_fill (a b : Int) (hb0 : 0 ≤ b) (hba : b ≤ a) (ha : a ≤ t0) (hb : b ≤ t1)
    (next : ∀ x, Tab t0 t1 t2 t3 (code a (b - 1) 16 16) x → ∃ r, Ev (fun k => spec_voTable.l1 k [t0, t1, t2, t3] x a (b - 1)) r ∧ Tab t0 t1 t2 t3 (-1) r) :
    ∀ (n : Nat) (c : Int) (x : List Int), c + 1 = n → c ≤ b → c ≤ t2 → Tab t0 t1 t2 t3 (code a b c 16) x → ∃ r, Ev (fun k => spec_voTable.l2 k [t0, t1, t2, t3] x a b c) r ∧ Tab t0 t1 t2 t3 (-1) r
  | 0, c, x, hn, hcb, hc, hx => by
    have ht' := ht
    unfold so at ht'
    obtain rfl : c = -1 := by omega
    obtain ⟨r, ⟨K, hK⟩, hp⟩ := next x (by rw [codeE2 a b]; exact hx)
    refine ⟨r, ⟨K + 1, fun k hk => ?_⟩, hp⟩
    obtain ⟨k, rfl⟩ : ∃ j, k = j + 1 := ⟨k - 1, by omega⟩
    show spec_voTable.l2 (k + 1) [t0, t1, t2, t3] x a b (-1) = some r
    rw [spec_voTable.l2, if_neg (by omega), mw1 b (by omega) (by omega)]
    exact hK k (by omega)
  | n + 1, c, x, hn, hcb, hc, hx => by
    have ht' := ht
    unfold so at ht'
    have bd : ∀ {p q r s : Int}, so p q r s → 0 ≤ s → p ≤ t0 → (0 ≤ p ∧ p ≤ 16) ∧ (0 ≤ q ∧ q ≤ 16) ∧ (0 ≤ r ∧ r ≤ 16) ∧ (0 ≤ s ∧ s ≤ 16) := fun h1 h2 h3 => by unfold so at h1; omega
    obtain ⟨m, em, m1, m2, m3⟩ := least_eq c t3
    obtain ⟨N, hN⟩ : ∃ N : Nat, m + 1 = N := ⟨(m + 1).toNat, by omega⟩
    obtain ⟨r, ⟨K, hK⟩, hp⟩ := l3_fill t0 t1 t2 t3 ht h16 ht0 hsum a b c (by omega) hcb hba ha hb hc (fun x' hx' => l2_fill a b hb0 hba ha hb next n (c - 1) x' (by omega) (by omega) (by omega) hx') N m x hN m1 m2 ⟨hx.1, fun p q r s h1 h2 h3 h4 h5 h6 h7 => hx.2 p q r s h1 h2 h3 h4 h5 h6 (up3 m3 ⟨by omega, by omega⟩ ht0 (bd h1 h2 h3).2.2.1 (bd h1 h2 h3).2.2.2 h1.2.2 h6 h7)⟩
    refine ⟨r, ⟨K + 1, fun k hk => ?_⟩, hp⟩
    obtain ⟨k, rfl⟩ : ∃ j, k = j + 1 := ⟨k - 1, by omega⟩
    show spec_voTable.l2 (k + 1) [t0, t1, t2, t3] x a b c = some r
    rw [spec_voTable.l2, if_pos (by omega), if_pos (by rw [l4_]; omega), r3_, em, Option.bind_some]
    exact hK k (by omega)
theorem l1_fill (a : Int) (ha0 : 0 ≤ a) (ha : a ≤ t0)
    (next : ∀ x, Tab t0 t1 t2 t3 (code (a - 1) 16 16 16) x → ∃ r, Ev (fun k => spec_voTable.l0 k [t0, t1, t2, t3] x (a - 1)) r ∧ Tab t0 t1 t2 t3 (-1) r) :
    ∀ (n : Nat) (b : Int) (x : List Int), b + 1 = n → b ≤ a → b ≤ t1 → Tab t0 t1 t2 t3 (code a b 16 16) x → ∃ r, Ev (fun k => spec_voTable.l1 k [t0, t1, t2, t3] x a b) r ∧ Tab t0 t1 t2 t3 (-1) r
  | 0, b, x, hn, hba, hb, hx => by
    have ht' := ht
    unfold so at ht'
    obtain rfl : b = -1 := by omega
    obtain ⟨r, ⟨K, hK⟩, hp⟩ := next x (by rw [codeE1 a]; exact hx)
    refine ⟨r, ⟨K + 1, fun k hk => ?_⟩, hp⟩
    obtain ⟨k, rfl⟩ : ∃ j, k = j + 1 := ⟨k - 1, by omega⟩
    show spec_voTable.l1 (k + 1) [t0, t1, t2, t3] x a (-1) = some r
    rw [spec_voTable.l1, if_neg (by omega), mw1 a (by omega) (by omega)]
    exact hK k (by omega)
  | n + 1, b, x, hn, hba, hb, hx => by
    have ht' := ht
    unfold so at ht'
    have bd : ∀ {p q r s : Int}, so p q r s → 0 ≤ s → p ≤ t0 → (0 ≤ p ∧ p ≤ 16) ∧ (0 ≤ q ∧ q ≤ 16) ∧ (0 ≤ r ∧ r ≤ 16) ∧ (0 ≤ s ∧ s ≤ 16) := fun h1 h2 h3 => by unfold so at h1; omega
    obtain ⟨m, em, m1, m2, m3⟩ := least_eq b t2
    obtain ⟨N, hN⟩ : ∃ N : Nat, m + 1 = N := ⟨(m + 1).toNat, by omega⟩
    obtain ⟨r, ⟨K, hK⟩, hp⟩ := l2_fill t0 t1 t2 t3 ht h16 ht0 hsum a b (by omega) hba ha hb (fun x' hx' => l1_fill a ha0 ha next n (b - 1) x' (by omega) (by omega) (by omega) hx') N m x hN m1 m2 ⟨hx.1, fun p q r s h1 h2 h3 h4 h5 h6 h7 => hx.2 p q r s h1 h2 h3 h4 h5 h6 (up2 m3 ⟨by omega, by omega⟩ (by omega) (bd h1 h2 h3).2.1 (bd h1 h2 h3).2.2.1 (bd h1 h2 h3).2.2.2 h1.2.1 h5 h7)⟩
    refine ⟨r, ⟨K + 1, fun k hk => ?_⟩, hp⟩
    obtain ⟨k, rfl⟩ : ∃ j, k = j + 1 := ⟨k - 1, by omega⟩
    show spec_voTable.l1 (k + 1) [t0, t1, t2, t3] x a b = some r
    rw [spec_voTable.l1, if_pos (by omega), if_pos (by rw [l4_]; omega), r2_, em, Option.bind_some]
    exact hK k (by omega)
theorem l0_fill : ∀ (n : Nat) (a : Int) (x : List Int), a + 1 = n → a ≤ t0 → Tab t0 t1 t2 t3 (code a 16 16 16) x → ∃ r, Ev (fun k => spec_voTable.l0 k [t0, t1, t2, t3] x a) r ∧ Tab t0 t1 t2 t3 (-1) r
  | 0, a, x, hn, ha, hx => by
    obtain rfl : a = -1 := by omega
    refine ⟨x, ⟨1, fun k hk => ?_⟩, (by rw [codeE0] at hx; exact hx)⟩
    obtain ⟨k, rfl⟩ : ∃ j, k = j + 1 := ⟨k - 1, by omega⟩
    show spec_voTable.l0 (k + 1) [t0, t1, t2, t3] x (-1) = some x
    rw [spec_voTable.l0, if_neg (by omega)]
  | n + 1, a, x, hn, ha, hx => by
    have ht' := ht
    unfold so at ht'
    have bd : ∀ {p q r s : Int}, so p q r s → 0 ≤ s → p ≤ t0 → (0 ≤ p ∧ p ≤ 16) ∧ (0 ≤ q ∧ q ≤ 16) ∧ (0 ≤ r ∧ r ≤ 16) ∧ (0 ≤ s ∧ s ≤ 16) := fun h1 h2 h3 => by unfold so at h1; omega
    obtain ⟨m, em, m1, m2, m3⟩ := least_eq a t1
    obtain ⟨N, hN⟩ : ∃ N : Nat, m + 1 = N := ⟨(m + 1).toNat, by omega⟩
    obtain ⟨r, ⟨K, hK⟩, hp⟩ := l1_fill t0 t1 t2 t3 ht h16 ht0 hsum a (by omega) ha (fun x' hx' => l0_fill n (a - 1) x' (by omega) (by omega) hx') N m x hN m1 m2 ⟨hx.1, fun p q r s h1 h2 h3 h4 h5 h6 h7 => hx.2 p q r s h1 h2 h3 h4 h5 h6 (up1 m3 (by omega) (by omega) (bd h1 h2 h3).2.1 (bd h1 h2 h3).2.2.1 (bd h1 h2 h3).2.2.2 h1.1 h4 h7)⟩
    refine ⟨r, ⟨K + 1, fun k hk => ?_⟩, hp⟩
    obtain ⟨k, rfl⟩ : ∃ j, k = j + 1 := ⟨k - 1, by omega⟩
    show spec_voTable.l0 (k + 1) [t0, t1, t2, t3] x a = some r
    rw [spec_voTable.l0, if_pos (by omega), if_pos (by rw [l4_]; omega), r1_, em, Option.bind_some]
    exact hK k (by omega)
theorem voTable_ev : ∃ r, Ev (fun k => spec_voTable.f k [t0, t1, t2, t3]) r ∧ Tab t0 t1 t2 t3 (-1) r := by
  have ht' := ht
  unfold so at ht'
  obtain ⟨N, hN⟩ : ∃ N : Nat, t0 + 1 = N := ⟨(t0 + 1).toNat, by omega⟩
  obtain ⟨x, hx⟩ : ∃ x : List Int, x = List.replicate (83521 : Int).toNat 0 := ⟨_, rfl⟩
  have hl : x.length = 83521 := by rw [hx, List.length_replicate]; rfl
  obtain ⟨r, ⟨K, hK⟩, hp⟩ := l0_fill t0 t1 t2 t3 ht h16 ht0 hsum N t0 x hN (by omega) ⟨hl, fun p q r s h1 h2 h3 h4 h5 h6 h7 => (top0 h3 (by omega) (by omega) (by omega) h7).elim⟩
  refine ⟨r, ⟨K, fun k hk => ?_⟩, hp⟩
  show spec_voTable.f k [t0, t1, t2, t3] = some r
  unfold spec_voTable.f
  rw [if_pos (by decide), if_pos (by decide), if_pos (by rw [l4_]; decide), r0_, ← hx]
  exact hK k hk
end

/-! ### a step of the program -/
theorem sone_eq (of : Int → Int → Int → Int → Option Int) (x y b0 b1 b2 b3 : Int) (n : Nat) (hz : y < x → n = 0) (hof : x ≤ y → so b0 b1 b2 b3 → of b0 b1 b2 b3 = some (n : Int)) :
    impl_step.one of x y b0 b1 b2 b3 = some (b0, b1, b2, b3, ((I (so b0 b1 b2 b3) n : Nat) : Int)) := by
  unfold impl_step.one
  by_cases h : x > y
  · rw [if_pos h, hz (by omega), I_zero]; rfl
  · rw [if_neg h, ordered_eq, Option.bind_some]
    by_cases hs : so b0 b1 b2 b3
    · rw [decide_eq_true (show b0 ≥ b1 ∧ b1 ≥ b2 ∧ b2 ≥ b3 from hs), if_pos rfl, hof (by omega) hs, Option.bind_some, I_pos hs]
    · rw [decide_eq_false (show ¬ (b0 ≥ b1 ∧ b1 ≥ b2 ∧ b2 ≥ b3) from hs), if_neg (by decide), I_neg hs]; rfl
section
variable (t0 t1 t2 t3 : Int) (ht : so t0 t1 t2 t3) (h16 : t0 ≤ 16) (ht0 : 0 ≤ t3) (hsum : t0 + t1 + t2 + t3 ≤ 16) (m : Nat) (a b c d : Int) (hs : so a b c d) (h0 : 0 ≤ d) (ha : a ≤ t0) (hb : b ≤ t1) (hc : c ≤ t2) (hd : d ≤ t3) (hm : t0 + t1 + t2 + t3 - (a + b + c + d) = m + 1)
include ht h16 ht0 hsum hs h0 ha hb hc hd hm
theorem step0 : impl_step.f 18 t0 t1 t2 t3 a b c d 0 = some (a + 1, b, c, d, ((I (so (a + 1) b c d) (A m (a + 1) b c d t0 t1 t2 t3) : Nat) : Int)) := by
  have _u0 := ht0
  unfold impl_step.f
  unfold so at hs ht
  rw [if_pos rfl, w64 (x := a + 1) (by omega) (by omega)]
  exact sone_eq _ _ _ _ _ _ _ _ (fun h => A_zero _ _ _ _ _ _ _ _ _ (by omega)) (fun h hs' => g_eq t0 t1 t2 t3 h16 ht m (by omega) _ _ _ _ 18 (by omega) hs' h0 h hb hc hd (by omega))
theorem step1 : impl_step.f 18 t0 t1 t2 t3 a b c d 1 = some (a, b + 1, c, d, ((I (so a (b + 1) c d) (A m a (b + 1) c d t0 t1 t2 t3) : Nat) : Int)) := by
  have _u0 := ht0
  unfold impl_step.f
  unfold so at hs ht
  rw [if_neg (by decide), if_pos rfl, w64 (x := b + 1) (by omega) (by omega)]
  exact sone_eq _ _ _ _ _ _ _ _ (fun h => A_zero _ _ _ _ _ _ _ _ _ (by omega)) (fun h hs' => g_eq t0 t1 t2 t3 h16 ht m (by omega) _ _ _ _ 18 (by omega) hs' h0 ha h hc hd (by omega))
theorem step2 : impl_step.f 18 t0 t1 t2 t3 a b c d 2 = some (a, b, c + 1, d, ((I (so a b (c + 1) d) (A m a b (c + 1) d t0 t1 t2 t3) : Nat) : Int)) := by
  have _u0 := ht0
  unfold impl_step.f
  unfold so at hs ht
  rw [if_neg (by decide), if_neg (by decide), if_pos rfl, w64 (x := c + 1) (by omega) (by omega)]
  exact sone_eq _ _ _ _ _ _ _ _ (fun h => A_zero _ _ _ _ _ _ _ _ _ (by omega)) (fun h hs' => g_eq t0 t1 t2 t3 h16 ht m (by omega) _ _ _ _ 18 (by omega) hs' h0 ha hb h hd (by omega))
theorem step3 : impl_step.f 18 t0 t1 t2 t3 a b c d 3 = some (a, b, c, d + 1, ((I (so a b c (d + 1)) (A m a b c (d + 1) t0 t1 t2 t3) : Nat) : Int)) := by
  have _u0 := ht0
  unfold impl_step.f
  unfold so at hs ht
  rw [if_neg (by decide), if_neg (by decide), if_neg (by decide), if_pos rfl, w64 (x := d + 1) (by omega) (by omega)]
  exact sone_eq _ _ _ _ _ _ _ _ (fun h => A_zero _ _ _ _ _ _ _ _ _ (by omega)) (fun h hs' => g_eq t0 t1 t2 t3 h16 ht m (by omega) _ _ _ _ 18 (by omega) hs' (by omega) ha hb hc h (by omega))
end

/-! ### the votes of a rank -/
theorem ex_abcd (t : Int) (h0 : 0 ≤ t) (h1 : t ≤ 3) : (⟨#[97, 98, 99, 100]⟩ : ByteArray).extract t.toNat (t + 1).toNat = strOfNums [97 + t] := by
  obtain h | h | h | h : t = 0 ∨ t = 1 ∨ t = 2 ∨ t = 3 := by omega
  all_goals subst h; rfl
theorem str_snoc (l : List Int) (x : Int) : strOfNums (l ++ [x]) = strOfNums l ++ strOfNums [x] := by
  apply ByteArray.ext
  rw [ByteArray.data_append]
  apply Array.ext'
  simp [strOfNums]
theorem str_size (l : List Int) : (strOfNums l).size = l.length := by
  show (strOfNums l).data.size = _
  simp [strOfNums]
section
variable (t0 t1 t2 t3 : Int) (ht : so t0 t1 t2 t3) (h16 : t0 ≤ 16) (ht0 : 0 ≤ t3) (hsum : t0 + t1 + t2 + t3 ≤ 16) (tab : List Int) (htab : Tab t0 t1 t2 t3 (-1) tab)
section
variable (m : Nat) (a b c d : Int) (hs : so a b c d) (h0 : 0 ≤ d) (ha : a ≤ t0) (hb : b ≤ t1) (hc : c ≤ t2) (hd : d ≤ t3) (hm : t0 + t1 + t2 + t3 - (a + b + c + d) = m + 1)
include ht h16 ht0 hsum hs h0 ha hb hc hd hm
theorem I_le (p : Prop) [Decidable p] (x y z w : Int) : ((I p (A m x y z w t0 t1 t2 t3) : Nat) : Int) ≤ 4294967296 := by
  have _u0 := ht
  have _u1 := h16
  have _u2 := ht0
  have _u3 := ha
  have _u4 := hb
  have _u5 := hc
  have _u6 := hd
  have h1 := A_le t0 t1 t2 t3 m x y z w
  have h2 : 4 ^ m ≤ 4 ^ 16 := Nat.pow_le_pow_right (by decide) (by unfold so at hs; omega)
  unfold I
  split <;> omega
theorem ir (i x : Int) (k : Nat) (out : List Int) (rk a' b' c' d' q : Int) (hi : 0 ≤ i ∧ i < 4) (hst : impl_step.f 18 t0 t1 t2 t3 a b c d i = some (a', b', c', d', q)) (hx : bt (⟨#[97, 98, 99, 100]⟩ : ByteArray) i = x) (hq : 0 ≤ q ∧ q ≤ 4294967296) (hr : 0 ≤ rk ∧ rk ≤ 4611686018427387904) (ho : out.length ≤ 1000) :
    impl_tally_ofRank.l1 (k + 1) t0 t1 t2 t3 out a b c d rk i = if rk < q then impl_tally_ofRank.l0 k t0 t1 t2 t3 (out ++ [x]) a' b' c' d' rk else impl_tally_ofRank.l1 k t0 t1 t2 t3 out a b c d (rk - q) (i + 1) := by
  have _u0 := ht
  have _u1 := h16
  have _u2 := ht0
  have _u3 := hsum
  have _u4 := hs
  have _u5 := h0
  have _u6 := ha
  have _u7 := hb
  have _u8 := hc
  have _u9 := hd
  have _u10 := hm
  rw [impl_tally_ofRank.l1, if_pos hi.2, hst, Option.bind_some]
  dsimp only
  by_cases h : rk < q
  · rw [if_pos h, if_pos h, if_pos (by omega), hx]
  · rw [if_neg h, if_neg h, w64 (x := rk - q) (by omega) (by omega), w64 (x := i + 1) (by omega) (by omega)]
include htab
theorem look_ (p q r s : Int) (hp : so p q r s) (hs0 : 0 ≤ s) (h1 : p ≤ t0) (h2 : q ≤ t1) (h3 : r ≤ t2) (h4 : s ≤ t3) (h5 : p + q + r + s = a + b + c + d + 1) (j : Nat) : spec_voCode.f (j + 6) [p, q, r, s] = some (code p q r s) ∧ 0 ≤ code p q r s ∧ code p q r s < (tab.length : Int) ∧ rd tab (code p q r s) = (A m p q r s t0 t1 t2 t3 : Int) := by
  have _u0 := ht
  have _u1 := hs
  have _u2 := h0
  have hp' := hp
  unfold so at hp'
  refine ⟨voCode_eq p q r s (by omega) (by omega) (by omega) (by omega) _ (by omega), by unfold code; omega, by rw [htab.1]; unfold code; omega, ?_⟩
  rw [htab.2 p q r s hp hs0 h1 h2 h3 h4 (by unfold code; omega), show (t0 + t1 + t2 + t3 - (p + q + r + s)).toNat = m by omega]
theorem sr0 (k : Nat) (rk : Int) (s : ByteArray) (hr : 0 ≤ rk ∧ rk ≤ 4611686018427387904) (hz : s.size ≤ 1000) :
    spec_OrderedOfRank.l1 (k + 9) [t0, t1, t2, t3] rk [a, b, c, d] tab s 4 0 = if rk < ((I (so (a + 1) b c d) (A m (a + 1) b c d t0 t1 t2 t3) : Nat) : Int) then spec_OrderedOfRank.l0 (k + 7) [t0, t1, t2, t3] rk [a + 1, b, c, d] tab (s ++ strOfNums [97]) else spec_OrderedOfRank.l1 (k + 7) [t0, t1, t2, t3] (rk - ((I (so (a + 1) b c d) (A m (a + 1) b c d t0 t1 t2 t3) : Nat) : Int)) [a, b, c, d] tab s 4 1 := by
  have hs' := hs
  unfold so at hs'
  have hle := I_le t0 t1 t2 t3 ht h16 ht0 hsum m a b c d hs h0 ha hb hc hd hm (so (a + 1) b c d) (a + 1) b c d
  rw [spec_OrderedOfRank.l1]
  rw [if_pos (by decide), if_pos (by decide), if_pos (by rw [l4_]; decide), if_pos (by rw [l4_]; decide)]
  by_cases h : a = t0
  · rw [if_pos (show rd [a, b, c, d] 0 = rd [t0, t1, t2, t3] 0 from h), spec_OrderedOfRank.j3, if_pos rfl, A_zero _ _ _ _ m _ _ _ _ (by omega), I_zero, if_neg (by omega), v1_]; simp
  · have hso : so (a + 1) b c d := by unfold so; omega
    obtain ⟨k1, k2, k3, k4⟩ := look_ t0 t1 t2 t3 ht h16 ht0 hsum tab htab m a b c d hs h0 ha hb hc hd hm (a + 1) b c d hso h0 (by omega) hb hc hd (by omega) (k + 1)
    rw [I_pos hso] at hle ⊢
    rw [if_neg (show ¬ rd [a, b, c, d] 0 = rd [t0, t1, t2, t3] 0 from h), if_neg (by decide), spec_OrderedOfRank.j3, if_neg (by decide), own_eq _ (by simp), Option.bind_some, if_pos (by decide), l4_, if_pos (by decide), Option.bind_some, s0_, r0_, mw2 a (by omega) (by omega), k1, Option.bind_some, if_pos k2, if_pos k3, k4]
    by_cases h2 : rk < (A m (a + 1) b c d t0 t1 t2 t3 : Int)
    · have e1 : (⟨#[97, 98, 99, 100]⟩ : ByteArray).extract (0 : Int).toNat (wrap64 (0 + 1)).toNat = strOfNums [97] := by rw [v1_]; exact ex_abcd 0 (by omega) (by omega)
      rw [if_neg (by omega), if_pos h2, if_pos (by rw [v1_]; decide), if_pos (by rw [v1_]; decide), e1, if_pos (by rw [str_size]; simp; omega)]
    · rw [if_pos (by omega), if_neg h2, w64 (x := rk - _) (by omega) (by omega), v1_]
theorem sr1 (k : Nat) (rk : Int) (s : ByteArray) (hr : 0 ≤ rk ∧ rk ≤ 4611686018427387904) (hz : s.size ≤ 1000) :
    spec_OrderedOfRank.l1 (k + 9) [t0, t1, t2, t3] rk [a, b, c, d] tab s 4 1 = if rk < ((I (so a (b + 1) c d) (A m a (b + 1) c d t0 t1 t2 t3) : Nat) : Int) then spec_OrderedOfRank.l0 (k + 7) [t0, t1, t2, t3] rk [a, b + 1, c, d] tab (s ++ strOfNums [98]) else spec_OrderedOfRank.l1 (k + 7) [t0, t1, t2, t3] (rk - ((I (so a (b + 1) c d) (A m a (b + 1) c d t0 t1 t2 t3) : Nat) : Int)) [a, b, c, d] tab s 4 2 := by
  have hs' := hs
  unfold so at hs'
  have hle := I_le t0 t1 t2 t3 ht h16 ht0 hsum m a b c d hs h0 ha hb hc hd hm (so a (b + 1) c d) a (b + 1) c d
  have e0 : wrap64 (1 - 1) = 0 := by rw [w64 (by omega) (by omega)]; rfl
  rw [spec_OrderedOfRank.l1]
  simp only [l4_, r1_, r0_, c14, c04, c00, c01, if_true, e0]
  by_cases h : b = t1
  · rw [if_pos h, spec_OrderedOfRank.j3, if_pos rfl, A_zero _ _ _ _ m _ _ _ _ (by omega), I_zero, if_neg (by omega), v2_]; simp
  · rw [if_neg h, if_pos (by decide)]
    by_cases h3 : a = b
    · rw [show (a == b) = true by simpa using h3, spec_OrderedOfRank.j3, if_pos rfl, I_neg (by unfold so; omega), if_neg (by omega), v2_]; simp
    · have hso : so a (b + 1) c d := by unfold so; omega
      obtain ⟨k1, k2, k3, k4⟩ := look_ t0 t1 t2 t3 ht h16 ht0 hsum tab htab m a b c d hs h0 ha hb hc hd hm a (b + 1) c d hso h0 (by omega) (by omega) hc hd (by omega) (k + 1)
      rw [I_pos hso] at hle ⊢
      rw [show (a == b) = false by simpa using h3, spec_OrderedOfRank.j3, if_neg (by decide), own_eq _ (by simp), Option.bind_some, if_pos (by decide), l4_, if_pos (by decide), Option.bind_some, s1_, r1_, mw2 b (by omega) (by omega), k1, Option.bind_some, if_pos k2, if_pos k3, k4]
      by_cases h2 : rk < (A m a (b + 1) c d t0 t1 t2 t3 : Int)
      · have e1 : (⟨#[97, 98, 99, 100]⟩ : ByteArray).extract (1 : Int).toNat (wrap64 (1 + 1)).toNat = strOfNums [98] := by rw [v2_]; exact ex_abcd 1 (by omega) (by omega)
        rw [if_neg (by omega), if_pos h2, if_pos (by rw [v2_]; decide), if_pos (by rw [v2_]; decide), e1, if_pos (by rw [str_size]; simp; omega)]
      · rw [if_pos (by omega), if_neg h2, w64 (x := rk - _) (by omega) (by omega), v2_]
theorem sr2 (k : Nat) (rk : Int) (s : ByteArray) (hr : 0 ≤ rk ∧ rk ≤ 4611686018427387904) (hz : s.size ≤ 1000) :
    spec_OrderedOfRank.l1 (k + 9) [t0, t1, t2, t3] rk [a, b, c, d] tab s 4 2 = if rk < ((I (so a b (c + 1) d) (A m a b (c + 1) d t0 t1 t2 t3) : Nat) : Int) then spec_OrderedOfRank.l0 (k + 7) [t0, t1, t2, t3] rk [a, b, c + 1, d] tab (s ++ strOfNums [99]) else spec_OrderedOfRank.l1 (k + 7) [t0, t1, t2, t3] (rk - ((I (so a b (c + 1) d) (A m a b (c + 1) d t0 t1 t2 t3) : Nat) : Int)) [a, b, c, d] tab s 4 3 := by
  have hs' := hs
  unfold so at hs'
  have hle := I_le t0 t1 t2 t3 ht h16 ht0 hsum m a b c d hs h0 ha hb hc hd hm (so a b (c + 1) d) a b (c + 1) d
  have e0 : wrap64 (2 - 1) = 1 := by rw [w64 (by omega) (by omega)]; rfl
  rw [spec_OrderedOfRank.l1]
  simp only [l4_, r2_, r1_, c24, c14, c01, c02, if_true, e0]
  by_cases h : c = t2
  · rw [if_pos h, spec_OrderedOfRank.j3, if_pos rfl, A_zero _ _ _ _ m _ _ _ _ (by omega), I_zero, if_neg (by omega), v3_]; simp
  · rw [if_neg h, if_pos (by decide)]
    by_cases h3 : b = c
    · rw [show (b == c) = true by simpa using h3, spec_OrderedOfRank.j3, if_pos rfl, I_neg (by unfold so; omega), if_neg (by omega), v3_]; simp
    · have hso : so a b (c + 1) d := by unfold so; omega
      obtain ⟨k1, k2, k3, k4⟩ := look_ t0 t1 t2 t3 ht h16 ht0 hsum tab htab m a b c d hs h0 ha hb hc hd hm a b (c + 1) d hso h0 (by omega) (by omega) (by omega) hd (by omega) (k + 1)
      rw [I_pos hso] at hle ⊢
      rw [show (b == c) = false by simpa using h3, spec_OrderedOfRank.j3, if_neg (by decide), own_eq _ (by simp), Option.bind_some, if_pos (by decide), l4_, if_pos (by decide), Option.bind_some, s2_, r2_, mw2 c (by omega) (by omega), k1, Option.bind_some, if_pos k2, if_pos k3, k4]
      by_cases h2 : rk < (A m a b (c + 1) d t0 t1 t2 t3 : Int)
      · have e1 : (⟨#[97, 98, 99, 100]⟩ : ByteArray).extract (2 : Int).toNat (wrap64 (2 + 1)).toNat = strOfNums [99] := by rw [v3_]; exact ex_abcd 2 (by omega) (by omega)
        rw [if_neg (by omega), if_pos h2, if_pos (by rw [v3_]; decide), if_pos (by rw [v3_]; decide), e1, if_pos (by rw [str_size]; simp; omega)]
      · rw [if_pos (by omega), if_neg h2, w64 (x := rk - _) (by omega) (by omega), v3_]
theorem sr3 (k : Nat) (rk : Int) (s : ByteArray) (hr : 0 ≤ rk ∧ rk ≤ 4611686018427387904) (hz : s.size ≤ 1000) :
    spec_OrderedOfRank.l1 (k + 9) [t0, t1, t2, t3] rk [a, b, c, d] tab s 4 3 = if rk < ((I (so a b c (d + 1)) (A m a b c (d + 1) t0 t1 t2 t3) : Nat) : Int) then spec_OrderedOfRank.l0 (k + 7) [t0, t1, t2, t3] rk [a, b, c, d + 1] tab (s ++ strOfNums [100]) else spec_OrderedOfRank.l1 (k + 7) [t0, t1, t2, t3] (rk - ((I (so a b c (d + 1)) (A m a b c (d + 1) t0 t1 t2 t3) : Nat) : Int)) [a, b, c, d] tab s 4 4 := by
  have hs' := hs
  unfold so at hs'
  have hle := I_le t0 t1 t2 t3 ht h16 ht0 hsum m a b c d hs h0 ha hb hc hd hm (so a b c (d + 1)) a b c (d + 1)
  have e0 : wrap64 (3 - 1) = 2 := by rw [w64 (by omega) (by omega)]; rfl
  rw [spec_OrderedOfRank.l1]
  simp only [l4_, r3_, r2_, c34, c24, c02, c03, if_true, e0]
  by_cases h : d = t3
  · rw [if_pos h, spec_OrderedOfRank.j3, if_pos rfl, A_zero _ _ _ _ m _ _ _ _ (by omega), I_zero, if_neg (by omega), v4_]; simp
  · rw [if_neg h, if_pos (by decide)]
    by_cases h3 : c = d
    · rw [show (c == d) = true by simpa using h3, spec_OrderedOfRank.j3, if_pos rfl, I_neg (by unfold so; omega), if_neg (by omega), v4_]; simp
    · have hso : so a b c (d + 1) := by unfold so; omega
      obtain ⟨k1, k2, k3, k4⟩ := look_ t0 t1 t2 t3 ht h16 ht0 hsum tab htab m a b c d hs h0 ha hb hc hd hm a b c (d + 1) hso (by omega) (by omega) (by omega) (by omega) (by omega) (by omega) (k + 1)
      rw [I_pos hso] at hle ⊢
      rw [show (c == d) = false by simpa using h3, spec_OrderedOfRank.j3, if_neg (by decide), own_eq _ (by simp), Option.bind_some, if_pos (by decide), l4_, if_pos (by decide), Option.bind_some, s3_, r3_, mw2 d (by omega) (by omega), k1, Option.bind_some, if_pos k2, if_pos k3, k4]
      by_cases h2 : rk < (A m a b c (d + 1) t0 t1 t2 t3 : Int)
      · have e1 : (⟨#[97, 98, 99, 100]⟩ : ByteArray).extract (3 : Int).toNat (wrap64 (3 + 1)).toNat = strOfNums [100] := by rw [v4_]; exact ex_abcd 3 (by omega) (by omega)
        rw [if_neg (by omega), if_pos h2, if_pos (by rw [v4_]; decide), if_pos (by rw [v4_]; decide), e1, if_pos (by rw [str_size]; simp; omega)]
      · rw [if_pos (by omega), if_neg h2, w64 (x := rk - _) (by omega) (by omega), v4_]
end
include ht h16 ht0 hsum htab in
theorem walk_eq : ∀ (m : Nat), m ≤ 16 → ∀ (a b c d rk : Int) (out : List Int), so a b c d → 0 ≤ d → a ≤ t0 → b ≤ t1 → c ≤ t2 → d ≤ t3 → t0 + t1 + t2 + t3 - (a + b + c + d) = m → 0 ≤ rk → rk < (A m a b c d t0 t1 t2 t3 : Int) → out.length + m ≤ 100 →
    ∃ R : ByteArray, (∀ k, 6 * m < k → impl_tally_ofRank.l0 k t0 t1 t2 t3 out a b c d rk = some (R, true)) ∧ Ev (fun k => spec_OrderedOfRank.l0 k [t0, t1, t2, t3] rk [a, b, c, d] tab (strOfNums out)) (R, true) := by
  intro m
  induction m with
  | zero =>
    intro hm a b c d rk out hs h0 ha hb hc hd hsm hr0 hr ho
    have e : a = t0 ∧ b = t1 ∧ c = t2 ∧ d = t3 := by omega
    refine ⟨strOfNums out, fun k hk => ?_, ⟨20, fun k hk => ?_⟩⟩
    · obtain ⟨k, rfl⟩ : ∃ j, k = j + 1 := ⟨k - 1, by omega⟩
      rw [impl_tally_ofRank.l0, if_pos e]
    · obtain ⟨k, rfl⟩ : ∃ j, k = j + 1 := ⟨k - 1, by omega⟩
      show spec_OrderedOfRank.l0 (k + 1) _ _ _ _ _ = _
      rw [spec_OrderedOfRank.l0, voSame_eq _ _ _ _ _ _ _ _ _ (by omega), Option.bind_some, decide_eq_true e, if_pos rfl]
  | succ m ih =>
    intro hm a b c d rk out hs h0 ha hb hc hd hsm hr0 hr ho
    have e : ¬ (a = t0 ∧ b = t1 ∧ c = t2 ∧ d = t3) := by omega
    have hsm' : t0 + t1 + t2 + t3 - (a + b + c + d) = (m : Int) + 1 := by omega
    have hAl : A (m + 1) a b c d t0 t1 t2 t3 ≤ 4 ^ 16 := Nat.le_trans (A_le _ _ _ _ _ _ _ _ _) (Nat.pow_le_pow_right (by decide) (by omega))
    have hrb : rk ≤ 4294967296 := by omega
    clear hAl
    rw [A_succ] at hr
    have hle := I_le t0 t1 t2 t3 ht h16 ht0 hsum m a b c d hs h0 ha hb hc hd hsm'
    have q0 := hle (so (a + 1) b c d) (a + 1) b c d
    have q1 := hle (so a (b + 1) c d) a (b + 1) c d
    have q2 := hle (so a b (c + 1) d) a b (c + 1) d
    have q3 := hle (so a b c (d + 1)) a b c (d + 1)
    have z0 : 0 < I (so (a + 1) b c d) (A m (a + 1) b c d t0 t1 t2 t3) → so (a + 1) b c d ∧ a + 1 ≤ t0 ∧ I (so (a + 1) b c d) (A m (a + 1) b c d t0 t1 t2 t3) = A m (a + 1) b c d t0 t1 t2 t3 := fun h => by
      by_cases hso : so (a + 1) b c d
      · refine ⟨hso, ?_, I_pos hso _⟩
        by_cases hx : a + 1 ≤ t0
        · exact hx
        · rw [A_zero _ _ _ _ m _ _ _ _ (by omega), I_zero] at h; omega
      · rw [I_neg hso] at h; omega
    have z1 : 0 < I (so a (b + 1) c d) (A m a (b + 1) c d t0 t1 t2 t3) → so a (b + 1) c d ∧ b + 1 ≤ t1 ∧ I (so a (b + 1) c d) (A m a (b + 1) c d t0 t1 t2 t3) = A m a (b + 1) c d t0 t1 t2 t3 := fun h => by
      by_cases hso : so a (b + 1) c d
      · refine ⟨hso, ?_, I_pos hso _⟩
        by_cases hx : b + 1 ≤ t1
        · exact hx
        · rw [A_zero _ _ _ _ m _ _ _ _ (by omega), I_zero] at h; omega
      · rw [I_neg hso] at h; omega
    have z2 : 0 < I (so a b (c + 1) d) (A m a b (c + 1) d t0 t1 t2 t3) → so a b (c + 1) d ∧ c + 1 ≤ t2 ∧ I (so a b (c + 1) d) (A m a b (c + 1) d t0 t1 t2 t3) = A m a b (c + 1) d t0 t1 t2 t3 := fun h => by
      by_cases hso : so a b (c + 1) d
      · refine ⟨hso, ?_, I_pos hso _⟩
        by_cases hx : c + 1 ≤ t2
        · exact hx
        · rw [A_zero _ _ _ _ m _ _ _ _ (by omega), I_zero] at h; omega
      · rw [I_neg hso] at h; omega
    have z3 : 0 < I (so a b c (d + 1)) (A m a b c (d + 1) t0 t1 t2 t3) → so a b c (d + 1) ∧ d + 1 ≤ t3 ∧ I (so a b c (d + 1)) (A m a b c (d + 1) t0 t1 t2 t3) = A m a b c (d + 1) t0 t1 t2 t3 := fun h => by
      by_cases hso : so a b c (d + 1)
      · refine ⟨hso, ?_, I_pos hso _⟩
        by_cases hx : d + 1 ≤ t3
        · exact hx
        · rw [A_zero _ _ _ _ m _ _ _ _ (by omega), I_zero] at h; omega
      · rw [I_neg hso] at h; omega
    have i0 := step0 t0 t1 t2 t3 ht h16 ht0 hsum m a b c d hs h0 ha hb hc hd hsm'
    have i1 := step1 t0 t1 t2 t3 ht h16 ht0 hsum m a b c d hs h0 ha hb hc hd hsm'
    have i2 := step2 t0 t1 t2 t3 ht h16 ht0 hsum m a b c d hs h0 ha hb hc hd hsm'
    have i3 := step3 t0 t1 t2 t3 ht h16 ht0 hsum m a b c d hs h0 ha hb hc hd hsm'
    have S0 := sr0 t0 t1 t2 t3 ht h16 ht0 hsum tab htab m a b c d hs h0 ha hb hc hd hsm'
    have S1 := sr1 t0 t1 t2 t3 ht h16 ht0 hsum tab htab m a b c d hs h0 ha hb hc hd hsm'
    have S2 := sr2 t0 t1 t2 t3 ht h16 ht0 hsum tab htab m a b c d hs h0 ha hb hc hd hsm'
    have S3 := sr3 t0 t1 t2 t3 ht h16 ht0 hsum tab htab m a b c d hs h0 ha hb hc hd hsm'
    have R := ir t0 t1 t2 t3 ht h16 ht0 hsum m a b c d hs h0 ha hb hc hd hsm'
    have hz : (strOfNums out).size ≤ 1000 := by rw [str_size]; omega
    generalize e0 : I (so (a + 1) b c d) (A m (a + 1) b c d t0 t1 t2 t3) = n0 at *
    generalize e1 : I (so a (b + 1) c d) (A m a (b + 1) c d t0 t1 t2 t3) = n1 at *
    generalize e2 : I (so a b (c + 1) d) (A m a b (c + 1) d t0 t1 t2 t3) = n2 at *
    generalize e3 : I (so a b c (d + 1)) (A m a b c (d + 1) t0 t1 t2 t3) = n3 at *
    have fin : ∀ (a' b' c' d' rk' x : Int), (∃ R : ByteArray, (∀ k, 6 * m < k → impl_tally_ofRank.l0 k t0 t1 t2 t3 (out ++ [x]) a' b' c' d' rk' = some (R, true)) ∧ Ev (fun k => spec_OrderedOfRank.l0 k [t0, t1, t2, t3] rk' [a', b', c', d'] tab (strOfNums (out ++ [x]))) (R, true)) →
        (∀ k, impl_tally_ofRank.l1 (k + 4) t0 t1 t2 t3 out a b c d rk 0 = impl_tally_ofRank.l0 (k + 3) t0 t1 t2 t3 (out ++ [x]) a' b' c' d' rk' ∨ impl_tally_ofRank.l1 (k + 4) t0 t1 t2 t3 out a b c d rk 0 = impl_tally_ofRank.l0 (k + 2) t0 t1 t2 t3 (out ++ [x]) a' b' c' d' rk' ∨ impl_tally_ofRank.l1 (k + 4) t0 t1 t2 t3 out a b c d rk 0 = impl_tally_ofRank.l0 (k + 1) t0 t1 t2 t3 (out ++ [x]) a' b' c' d' rk' ∨ impl_tally_ofRank.l1 (k + 4) t0 t1 t2 t3 out a b c d rk 0 = impl_tally_ofRank.l0 k t0 t1 t2 t3 (out ++ [x]) a' b' c' d' rk') →
        (∀ k, ∃ j, spec_OrderedOfRank.l1 (k + 20) [t0, t1, t2, t3] rk [a, b, c, d] tab (strOfNums out) 4 0 = spec_OrderedOfRank.l0 (k + j) [t0, t1, t2, t3] rk' [a', b', c', d'] tab (strOfNums out ++ strOfNums [x])) →
        ∃ R : ByteArray, (∀ k, 6 * (m + 1) < k → impl_tally_ofRank.l0 k t0 t1 t2 t3 out a b c d rk = some (R, true)) ∧ Ev (fun k => spec_OrderedOfRank.l0 k [t0, t1, t2, t3] rk [a, b, c, d] tab (strOfNums out)) (R, true) := by
      rintro a' b' c' d' rk' x ⟨R, h1, ⟨K, h2⟩⟩ hi hsp
      refine ⟨R, fun k hk => ?_, ⟨K + 40, fun k hk => ?_⟩⟩
      · obtain ⟨k, rfl⟩ : ∃ j, k = (j + 4) + 1 := ⟨k - 5, by omega⟩
        rw [impl_tally_ofRank.l0, if_neg e]
        rcases hi k with h | h | h | h <;> rw [h] <;> exact h1 _ (by omega)
      · obtain ⟨k, rfl⟩ : ∃ j, k = (j + 20) + 1 := ⟨k - 21, by omega⟩
        show spec_OrderedOfRank.l0 (k + 20 + 1) _ _ _ _ _ = _
        rw [spec_OrderedOfRank.l0, voSame_eq _ _ _ _ _ _ _ _ _ (by omega), Option.bind_some, decide_eq_false e, if_neg (by decide), l4_]
        obtain ⟨j, hj⟩ := hsp k
        rw [hj, ← str_snoc]
        exact h2 _ (by omega)
    by_cases c0 : rk < (n0 : Int)
    · obtain ⟨y1, y2, y3⟩ := z0 (by omega)
      refine fin (a + 1) b c d rk 97 (ih (by omega) _ _ _ _ rk _ y1 h0 y2 hb hc hd (by omega) hr0 (by omega) (by simp; omega)) (fun k => .inl ?_) (fun k => ⟨18, ?_⟩)
      · rw [R 0 97 (k + 3) out rk _ _ _ _ _ (by omega) i0 rfl (by omega) (by omega) (by omega), if_pos c0]
      · rw [S0 (k + 11) rk _ (by omega) hz, if_pos c0]
    by_cases c1 : rk - (n0 : Int) < (n1 : Int)
    · obtain ⟨y1, y2, y3⟩ := z1 (by omega)
      refine fin a (b + 1) c d (rk - n0) 98 (ih (by omega) _ _ _ _ (rk - n0) _ y1 h0 ha y2 hc hd (by omega) (by omega) (by omega) (by simp; omega)) (fun k => .inr (.inl ?_)) (fun k => ⟨16, ?_⟩)
      · rw [R 0 97 (k + 3) out rk _ _ _ _ _ (by omega) i0 rfl (by omega) (by omega) (by omega), if_neg c0, show (0 : Int) + 1 = 1 from rfl, R 1 98 (k + 2) out (rk - n0) _ _ _ _ _ (by omega) i1 rfl (by omega) (by omega) (by omega), if_pos c1]
      · rw [S0 (k + 11) rk _ (by omega) hz, if_neg c0, S1 (k + 9) (rk - n0) _ (by omega) hz, if_pos c1]
    by_cases c2 : rk - (n0 : Int) - (n1 : Int) < (n2 : Int)
    · obtain ⟨y1, y2, y3⟩ := z2 (by omega)
      refine fin a b (c + 1) d (rk - n0 - n1) 99 (ih (by omega) _ _ _ _ (rk - n0 - n1) _ y1 h0 ha hb y2 hd (by omega) (by omega) (by omega) (by simp; omega)) (fun k => .inr (.inr (.inl ?_))) (fun k => ⟨14, ?_⟩)
      · rw [R 0 97 (k + 3) out rk _ _ _ _ _ (by omega) i0 rfl (by omega) (by omega) (by omega), if_neg c0, show (0 : Int) + 1 = 1 from rfl, R 1 98 (k + 2) out (rk - n0) _ _ _ _ _ (by omega) i1 rfl (by omega) (by omega) (by omega), if_neg c1, show (1 : Int) + 1 = 2 from rfl, R 2 99 (k + 1) out (rk - n0 - n1) _ _ _ _ _ (by omega) i2 rfl (by omega) (by omega) (by omega), if_pos c2]
      · rw [S0 (k + 11) rk _ (by omega) hz, if_neg c0, S1 (k + 9) (rk - n0) _ (by omega) hz, if_neg c1, S2 (k + 7) (rk - n0 - n1) _ (by omega) hz, if_pos c2]
    have c3 : rk - (n0 : Int) - (n1 : Int) - (n2 : Int) < (n3 : Int) := by omega
    obtain ⟨y1, y2, y3⟩ := z3 (by omega)
    refine fin a b c (d + 1) (rk - n0 - n1 - n2) 100 (ih (by omega) _ _ _ _ (rk - n0 - n1 - n2) _ y1 (by omega) ha hb hc y2 (by omega) (by omega) (by omega) (by simp; omega)) (fun k => .inr (.inr (.inr ?_))) (fun k => ⟨12, ?_⟩)
    · rw [R 0 97 (k + 3) out rk _ _ _ _ _ (by omega) i0 rfl (by omega) (by omega) (by omega), if_neg c0, show (0 : Int) + 1 = 1 from rfl, R 1 98 (k + 2) out (rk - n0) _ _ _ _ _ (by omega) i1 rfl (by omega) (by omega) (by omega), if_neg c1, show (1 : Int) + 1 = 2 from rfl, R 2 99 (k + 1) out (rk - n0 - n1) _ _ _ _ _ (by omega) i2 rfl (by omega) (by omega) (by omega), if_neg c2, show (2 : Int) + 1 = 3 from rfl, R 3 100 k out (rk - n0 - n1 - n2) _ _ _ _ _ (by omega) i3 rfl (by omega) (by omega) (by omega), if_pos c3]
    · rw [S0 (k + 11) rk _ (by omega) hz, if_neg c0, S1 (k + 9) (rk - n0) _ (by omega) hz, if_neg c1, S2 (k + 7) (rk - n0 - n1) _ (by omega) hz, if_neg c2, S3 (k + 5) (rk - n0 - n1 - n2) _ (by omega) hz, if_pos c3]
end

theorem l1In_gen (a x : Int) : spec_l1In.f a 0 x = some (decide (0 ≤ a ∧ a ≤ x)) := by
  unfold spec_l1In.f
  by_cases h : a ≥ 0
  · rw [if_pos h]; congr 1; rw [decide_eq_decide]; omega
  · rw [if_neg h, decide_eq_false (by omega)]
theorem in_gen (a x : Int) : impl_in.f a 0 x = some (decide (0 ≤ a ∧ a ≤ x)) := by
  unfold impl_in.f
  by_cases h : 0 ≤ a
  · rw [if_pos h]; congr 1; rw [decide_eq_decide]; omega
  · rw [if_neg h, decide_eq_false (by omega)]
/-- Both tell the same of a result. -/
theorem both (a b c d rk : Int) (hR : isR a b c d = true) : ∃ R : ByteArray × Bool, Ev (fun k => spec_OrderedOfRank.f k [a, b, c, d] rk) R ∧ ∀ k, impl_tally_ofRank.f k a b c d rk = some R := by
  have hR' := hR
  unfold isR inB at hR'
  simp only [Bool.and_eq_true, decide_eq_true_eq] at hR'
  have hs : so a b c d := by unfold so; omega
  obtain ⟨n, hn⟩ : ∃ n : Nat, a + b + c + d = n := ⟨(a + b + c + d).toNat, by omega⟩
  have hg := g_eq a b c d (by omega) hs n (by omega) 0 0 0 0 18 (by omega) so0 (by omega) (by omega) (by omega) (by omega) (by omega) (by omega)
  have hA : A n 0 0 0 0 a b c d ≤ 4 ^ 16 := Nat.le_trans (A_le _ _ _ _ _ _ _ _ _) (Nat.pow_le_pow_right (by decide) (by omega))
  have hv : spec_voCount.f 400 [a, b, c, d] = some (A n 0 0 0 0 a b c d : Int) := by
    obtain ⟨A', rfl⟩ := Int.eq_ofNat_of_zero_le (show 0 ≤ a by omega)
    obtain ⟨B', rfl⟩ := Int.eq_ofNat_of_zero_le (show 0 ≤ b by omega)
    obtain ⟨C', rfl⟩ := Int.eq_ofNat_of_zero_le (show 0 ≤ c by omega)
    obtain ⟨D', rfl⟩ := Int.eq_ofNat_of_zero_le (show 0 ≤ d by omega)
    have h := voCount_eq A' B' C' D' (by omega) (by omega) (by omega) (by omega)
    obtain rfl : A' + B' + C' + D' = n := by omega
    exact h
  have hw : wrap64 ((A n 0 0 0 0 a b c d : Int) - 1) = (A n 0 0 0 0 a b c d : Int) - 1 := w64 (by omega) (by omega)
  have hvk : ∀ k, 400 ≤ k → spec_voCount.f k [a, b, c, d] = some (A n 0 0 0 0 a b c d : Int) := fun k hk => at_rounds (spec_voCount.mono _) hk hv
  by_cases hr : 0 ≤ rk ∧ rk ≤ (A n 0 0 0 0 a b c d : Int) - 1
  · obtain ⟨tab, ⟨K1, hT⟩, htab⟩ := voTable_ev a b c d hs (by omega) (by omega) (by omega)
    obtain ⟨R, h1, ⟨K2, h2⟩⟩ := walk_eq a b c d hs (by omega) (by omega) (by omega) tab htab n (by omega) 0 0 0 0 rk [] so0 (by omega) (by omega) (by omega) (by omega) (by omega) (by omega) hr.1 (by omega) (by simp; omega)
    refine ⟨(R, true), ⟨K1 + K2 + 1000, fun k hk => ?_⟩, fun k => ?_⟩
    · obtain ⟨k, rfl⟩ : ∃ j, k = j + 1 := ⟨k - 1, by omega⟩
      show spec_OrderedOfRank.f (k + 1) [a, b, c, d] rk = some (R, true)
      unfold spec_OrderedOfRank.f
      rw [voResult_eq _ _ (by omega), Option.bind_some, show isRes [a, b, c, d] = true from hR, if_pos rfl, hvk _ (by omega), Option.bind_some, l1In_gen, Option.bind_some, hw, decide_eq_true hr, spec_OrderedOfRank.j0, if_neg (by decide), if_pos (by decide)]
      have := hT k (by omega)
      dsimp only at this
      rw [this, Option.bind_some]
      exact h2 k (by omega)
    · unfold impl_tally_ofRank.f
      rw [hg, Option.bind_some, in_gen, Option.bind_some, hw, decide_eq_true hr, if_pos rfl]
      exact h1 200 (by omega)
  · refine ⟨((⟨#[]⟩ : ByteArray), false), ⟨1000, fun k hk => ?_⟩, fun k => ?_⟩
    · obtain ⟨k, rfl⟩ : ∃ j, k = j + 1 := ⟨k - 1, by omega⟩
      show spec_OrderedOfRank.f (k + 1) [a, b, c, d] rk = _
      unfold spec_OrderedOfRank.f
      rw [voResult_eq _ _ (by omega), Option.bind_some, show isRes [a, b, c, d] = true from hR, if_pos rfl, hvk _ (by omega), Option.bind_some, l1In_gen, Option.bind_some, hw, decide_eq_false hr, spec_OrderedOfRank.j0, if_pos (by decide)]
    · unfold impl_tally_ofRank.f
      rw [hg, Option.bind_some, in_gen, Option.bind_some, hw, decide_eq_false hr, if_neg (by decide)]
theorem FnExactOrderedOfRank : laws_FnExactOrderedOfRank.Pure := by
  intro l rk hl hs hw hw1
  by_cases hR : isRes l = true
  · have h4 : l.length = 4 := by
      by_cases h4 : l.length = 4
      · exact h4
      · rw [isRes_not l h4] at hR; exact absurd hR (by decide)
    obtain ⟨a, b, c, d, rfl⟩ := four l h4
    obtain ⟨R, ⟨K, hK⟩, hi⟩ := both a b c d rk hR
    refine ⟨(K + 400) + 1, ?_⟩
    unfold laws_FnExactOrderedOfRank.f
    rw [if_neg (by rw [l4_]; omega), toI_eq _ (by omega) _ (by omega)]
    simp only [Option.bind_some]
    have h1 := hK (K + 400 + 1) (by omega)
    dsimp only at h1
    rw [h1]
    unfold impl_OrderedOfRank.f
    rw [resultOf_eq _ _ (by omega)]
    simp only [Option.bind_some]
    rw [resT_of a b c d hR]
    simp only [if_true, hi, Option.bind_some]
    rw [laws_FnExactOrderedOfRank.j0, bne_self_eq_false, if_neg (by decide), toI_eq _ (by omega) _ (by omega)]
    simp only [Option.bind_some]
    rw [eqI_self _ (by omega) _ (by omega)]
    simp
  · refine ⟨1048600 + 1, ?_⟩
    unfold laws_FnExactOrderedOfRank.f
    by_cases hb : (l.length : Int) > 1048576
    · rw [if_pos hb]
    · rw [if_neg hb, toI_eq l (by omega) _ (by omega)]
      simp only [Option.bind_some]
      unfold spec_OrderedOfRank.f impl_OrderedOfRank.f
      rw [voResult_eq l _ (by omega), resultOf_eq l _ (by omega)]
      simp only [Option.bind_some]
      rw [resT_snd, Bool.eq_false_iff.mpr hR, if_neg (by decide), spec_OrderedOfRank.j0, if_pos rfl, if_neg (by decide)]
      simp only [Option.bind_some, if_true]
      rw [laws_FnExactOrderedOfRank.j0, bne_self_eq_false, if_neg (by decide), toI_eq l (by omega) _ (by omega)]
      simp only [Option.bind_some]
      rw [eqI_self l (by omega) _ (by omega)]
      simp

end Go.Proofs.Ytgpebahbeccniaa.PuqFnExactOrderedOfRank
namespace Go.Proofs.Ytgpebahbeccniaa.Pure
open Go.Proofs.Ytgpebahbeccniaa.QFnExactOrderedOfRank
theorem FnExactOrderedOfRank : laws_FnExactOrderedOfRank.Pure := Go.Proofs.Ytgpebahbeccniaa.PuqFnExactOrderedOfRank.FnExactOrderedOfRank
end Go.Proofs.Ytgpebahbeccniaa.Pure
