/- For every list: CountOrdered of the program and of the reference answer alike. -/
import Derived.Test.YtfjpejdlgmlmhaaQFnExactCountOrderedx6
import Derived.Test.YtfjpejdlgmlmhaaZpl
namespace Go.Proofs.Ytfjpejdlgmlmhaa.PuqFnExactCountOrdered
open Go.RowKit Go.Proofs.Ytfjpejdlgmlmhaa.QFnExactCountOrdered Go.Proofs.YtfjpejdlgmlmhaaW.PrintWords Go.Proofs.YtfjpejdlgmlmhaaW.PrintLast Go.Proofs.YtfjpejdlgmlmhaaPl
set_option linter.unusedVariables false

theorem eqI_self (l : List Int) (hl : l.length ≤ 1048577) (k : Nat) (hk : l.length < k) : laws_eqIntS.f k l l = some true := by
  unfold laws_eqIntS.f
  rw [if_pos rfl]
  exact (loop_range (fun k (_ : Unit) i => laws_eqIntS.l0 k l l i) l.length (fun _ _ => ()) (fun _ => true) (fun _ _ => True)
    (fun k i _ hi _ => by
      refine ⟨?_, trivial⟩
      have e3 : wrap64 ((i : Int) + 1) = ((i + 1 : Nat) : Int) := by rw [w64 (by omega) (by omega)]; omega
      simp only [laws_eqIntS.l0, e3, if_true]
      repeat rw [if_pos (by omega)])
    (fun k _ _ => by simp only [laws_eqIntS.l0]; rw [if_neg (by omega)]) k () trivial hk).1


theorem falls_eq (a b c d : Int) (k : Nat) (hk : 5 < k) : spec_voFalls.f k [a, b, c, d] = some (decide (a ≥ b ∧ b ≥ c ∧ c ≥ d)) := by
  obtain ⟨k, rfl⟩ : ∃ m, k = m + 4 := ⟨k - 4, by omega⟩
  unfold spec_voFalls.f
  have w0 : wrap64 (1 - 1) = 0 := by rw [w64 (by omega) (by omega)]; rfl
  have w1 : wrap64 (2 - 1) = 1 := by rw [w64 (by omega) (by omega)]; rfl
  have w2 : wrap64 (3 - 1) = 2 := by rw [w64 (by omega) (by omega)]; rfl
  have v1 : wrap64 (1 + 1) = 2 := by rw [w64 (by omega) (by omega)]; rfl
  have v2 : wrap64 (2 + 1) = 3 := by rw [w64 (by omega) (by omega)]; rfl
  have v3 : wrap64 (3 + 1) = 4 := by rw [w64 (by omega) (by omega)]; rfl
  have r0 : rd [a, b, c, d] 0 = a := rfl
  have r1 : rd [a, b, c, d] 1 = b := rfl
  have r2 : rd [a, b, c, d] 2 = c := rfl
  have r3 : rd [a, b, c, d] 3 = d := rfl
  have l4 : (([a, b, c, d] : List Int).length : Int) = 4 := rfl
  simp only [spec_voFalls.l0, l4, w0, w1, w2, v1, v2, v3, r0, r1, r2, r3]
  simp only [show ((1 : Int) < 4) = True by simp, show ((2 : Int) < 4) = True by simp, show ((3 : Int) < 4) = True by simp, show ((0 : Int) < 4) = True by simp, show ((4 : Int) < 4) = False by simp, show ((0 : Int) ≤ 0) = True by simp, show ((0 : Int) ≤ 1) = True by simp, show ((0 : Int) ≤ 2) = True by simp, show ((0 : Int) ≤ 3) = True by simp, if_true, if_false]
  by_cases h1 : a < b
  · rw [if_pos h1, decide_eq_false (by omega)]
  · rw [if_neg h1]
    by_cases h2 : b < c
    · rw [if_pos h2, decide_eq_false (by omega)]
    · rw [if_neg h2]
      by_cases h3 : c < d
      · rw [if_pos h3, decide_eq_false (by omega)]
      · rw [if_neg h3, decide_eq_true (by omega)]

theorem ordered_eq (a b c d : Int) : impl_tally_isOrdered.f a b c d = some (decide (a ≥ b ∧ b ≥ c ∧ c ≥ d)) := by
  unfold impl_tally_isOrdered.f
  by_cases h1 : a ≥ b
  · rw [if_pos h1]
    by_cases h2 : b ≥ c
    · rw [if_pos h2]; congr 1; rw [decide_eq_decide]; omega
    · rw [if_neg h2, decide_eq_false (by omega)]
  · rw [if_neg h1, decide_eq_false (by omega)]


theorem toI_eq (l : List Int) (hl : l.length ≤ 1048577) (k : Nat) (hk : l.length < k) : laws_toIntS.f k l = some l := by
  unfold laws_toIntS.f
  rw [if_pos (by omega), if_pos (by omega)]
  have := loop_range (fun k (xs : List Int) i => laws_toIntS.l0 k l xs i) l.length (fun xs i => xs.set i (rd l (i : Int))) id (fun i xs => xs.length = l.length ∧ ∀ j : Nat, j < i → rd xs (j : Int) = rd l (j : Int))
    (fun k i xs hi hI => by
      obtain ⟨h1, h2⟩ := hI
      refine ⟨?_, ?_, ?_⟩
      · have e3 : wrap64 ((i : Int) + 1) = ((i + 1 : Nat) : Int) := by rw [w64 (by omega) (by omega)]; omega
        simp only [laws_toIntS.l0, e3, Int.toNat_natCast]
        repeat rw [if_pos (by omega)]
      · simpa using h1
      · intro j hj
        by_cases e : j = i
        · subst e
          rw [rd_nat _ _ (by rw [List.length_set]; omega), List.getElem_set_self]
        · rw [rd_nat _ _ (by rw [List.length_set]; omega), List.getElem_set_ne (by omega), ← rd_nat _ _ (by omega)]
          exact h2 j (by omega))
    (fun k xs hI => by simp only [laws_toIntS.l0]; rw [if_neg (by omega)]; rfl) k (List.replicate l.length 0) ⟨by simp, fun j hj => by omega⟩ hk
  rw [show ((l.length : Int) : Int).toNat = l.length from Int.toNat_natCast _]
  obtain ⟨h1, h2, h3⟩ := this
  rw [show laws_toIntS.l0 k l (List.replicate l.length 0) 0 = _ from h1, id]
  congr 1
  refine List.ext_getElem h2 fun j ha hb => ?_
  have := h3 j hb
  rw [rd_nat _ _ hb, rd_nat _ _ ha] at this
  exact this

/-- In the range of a result's numbers. -/
def inB (x : Int) : Bool := decide (0 ≤ x ∧ x ≤ 16)
def isR (a b c d : Int) : Bool := (inB a && inB b && inB c && inB d) && (decide (a ≥ b ∧ b ≥ c ∧ c ≥ d) && decide (a + b + c + d ≤ 16))
def isRes : List Int → Bool
  | [a, b, c, d] => isR a b c d
  | _ => false
def resT : List Int → Int × Int × Int × Int × Bool
  | [a, b, c, d] => if (inB a && inB b && inB c && inB d) = true then (a, b, c, d, isR a b c d) else (0, 0, 0, 0, false)
  | _ => (0, 0, 0, 0, false)
theorem four (l : List Int) (h : l.length = 4) : ∃ a b c d, l = [a, b, c, d] := by
  match l, h with
  | [a, b, c, d], _ => exact ⟨a, b, c, d, rfl⟩
theorem resT_not (l : List Int) (h : ¬ l.length = 4) : resT l = (0, 0, 0, 0, false) := by
  match l, h with
  | [], _ => rfl
  | [_], _ => rfl
  | [_, _], _ => rfl
  | [_, _, _], _ => rfl
  | [_, _, _, _], h => exact absurd rfl h
  | _ :: _ :: _ :: _ :: _ :: _, _ => rfl
theorem isRes_not (l : List Int) (h : ¬ l.length = 4) : isRes l = false := by
  match l, h with
  | [], _ => rfl
  | [_], _ => rfl
  | [_, _], _ => rfl
  | [_, _, _], _ => rfl
  | [_, _, _, _], h => exact absurd rfl h
  | _ :: _ :: _ :: _ :: _ :: _, _ => rfl
theorem resT_snd (l : List Int) : (resT l).2.2.2.2 = isRes l := by
  by_cases h : l.length = 4
  · obtain ⟨a, b, c, d, rfl⟩ := four l h
    simp only [resT, isRes]
    by_cases h1 : (inB a && inB b && inB c && inB d) = true
    · rw [if_pos h1]
    · rw [if_neg h1]; unfold isR; rw [Bool.eq_false_iff.mpr h1]; rfl
  · rw [resT_not l h, isRes_not l h]

theorem l1In_eq (x : Int) : spec_l1In.f x 0 16 = some (inB x) := by
  unfold spec_l1In.f inB
  by_cases h : x ≥ 0
  · rw [if_pos h]; congr 1; rw [decide_eq_decide]; omega
  · rw [if_neg h, decide_eq_false (by omega)]
theorem res1_eq (x : Int) : impl_resultOf_1.f x = !inB x := by
  unfold impl_resultOf_1.f inB
  rw [Bool.decide_and]

section
variable (a b c d : Int)
theorem v1_ : wrap64 ((0 : Int) + 1) = 1 := by rw [w64 (by omega) (by omega)]; rfl
theorem v2_ : wrap64 ((1 : Int) + 1) = 2 := by rw [w64 (by omega) (by omega)]; rfl
theorem v3_ : wrap64 ((2 : Int) + 1) = 3 := by rw [w64 (by omega) (by omega)]; rfl
theorem v4_ : wrap64 ((3 : Int) + 1) = 4 := by rw [w64 (by omega) (by omega)]; rfl
theorem r0_ : rd [a, b, c, d] 0 = a := rfl
theorem r1_ : rd [a, b, c, d] 1 = b := rfl
theorem r2_ : rd [a, b, c, d] 2 = c := rfl
theorem r3_ : rd [a, b, c, d] 3 = d := rfl
theorem l4_ : (([a, b, c, d] : List Int).length : Int) = 4 := rfl
end
theorem c04 : ((0 : Int) < 4) = True := by simp
theorem c14 : ((1 : Int) < 4) = True := by simp
theorem c24 : ((2 : Int) < 4) = True := by simp
theorem c34 : ((3 : Int) < 4) = True := by simp
theorem c44 : ((4 : Int) < 4) = False := by simp
theorem c00 : ((0 : Int) ≤ 0) = True := by simp
theorem c01 : ((0 : Int) ≤ 1) = True := by simp
theorem c02 : ((0 : Int) ≤ 2) = True := by simp
theorem c03 : ((0 : Int) ≤ 3) = True := by simp

theorem l1All_eq (a b c d : Int) (k : Nat) (hk : 5 < k) : spec_l1All.f k [a, b, c, d] 0 16 = some (inB a && inB b && inB c && inB d) := by
  obtain ⟨k, rfl⟩ : ∃ m, k = m + 5 := ⟨k - 5, by omega⟩
  unfold spec_l1All.f
  simp only [spec_l1All.l0, l4_, v1_, v2_, v3_, v4_, r0_, r1_, r2_, r3_, c04, c14, c24, c34, c44, c00, c01, c02, c03, if_true, if_false, l1In_eq, Option.bind_some]
  cases inB a <;> cases inB b <;> cases inB c <;> cases inB d <;> rfl

theorem cont_eq (a b c d : Int) (k : Nat) (hk : 5 < k) : slices_ContainsFunc_int_int.f k [a, b, c, d] impl_resultOf_1.o = some (!(inB a && inB b && inB c && inB d)) := by
  obtain ⟨k, rfl⟩ : ∃ m, k = m + 5 := ⟨k - 5, by omega⟩
  unfold slices_ContainsFunc_int_int.f slices_IndexFunc_int_int.f
  simp only [slices_IndexFunc_int_int.l0, l4_, v1_, v2_, v3_, v4_, r0_, r1_, r2_, r3_, c04, c14, c24, c34, c44, c00, c01, c02, c03, if_true, if_false, res1_eq]
  cases inB a <;> cases inB b <;> cases inB c <;> cases inB d <;> rfl

theorem sum_eq (a b c d : Int) (h : (inB a && inB b && inB c && inB d) = true) : impl_tally_sum.f a b c d = some (a + b + c + d) := by
  unfold inB at h
  simp only [Bool.and_eq_true, decide_eq_true_eq] at h
  unfold impl_tally_sum.f
  rw [w64 (x := a + b) (by omega) (by omega), w64 (x := a + b + c) (by omega) (by omega), w64 (by omega) (by omega)]

theorem resultOf_eq (l : List Int) (k : Nat) (hk : 20 < k) : impl_resultOf.f k l = some (resT l) := by
  obtain ⟨k, rfl⟩ : ∃ m, k = m + 10 := ⟨k - 10, by omega⟩
  unfold impl_resultOf.f
  by_cases h : l.length = 4
  · obtain ⟨a, b, c, d, rfl⟩ := four l h
    rw [if_pos (l4_ a b c d), cont_eq a b c d _ (by omega), Option.bind_some]
    simp only [impl_resultOf.j0, resT, l4_, r0_, r1_, r2_, r3_]
    by_cases h1 : (inB a && inB b && inB c && inB d) = true
    · rw [if_pos h1, h1, if_neg (by decide), if_pos (by omega), ordered_eq, Option.bind_some, sum_eq a b c d h1]
      unfold isR
      rw [h1]
      by_cases h2 : a ≥ b ∧ b ≥ c ∧ c ≥ d
      · rw [decide_eq_true h2, if_pos rfl, Option.bind_some]; rfl
      · rw [decide_eq_false h2, if_neg (by decide)]; rfl
    · rw [if_neg h1, Bool.eq_false_iff.mpr h1]; rfl
  · rw [if_neg (by omega), resT_not l h]; rfl

theorem voResult_eq (l : List Int) (k : Nat) (hk : 20 < k) : spec_voResult.f k l = some (isRes l) := by
  obtain ⟨k, rfl⟩ : ∃ m, k = m + 10 := ⟨k - 10, by omega⟩
  unfold spec_voResult.f
  by_cases h : l.length = 4
  · obtain ⟨a, b, c, d, rfl⟩ := four l h
    rw [if_pos (l4_ a b c d), l1All_eq a b c d _ (by omega), Option.bind_some]
    show _ = some ((inB a && inB b && inB c && inB d) && (decide (a ≥ b ∧ b ≥ c ∧ c ≥ d) && decide (a + b + c + d ≤ 16)))
    by_cases h1 : (inB a && inB b && inB c && inB d) = true
    · rw [h1, if_pos rfl, falls_eq a b c d _ (by omega), Option.bind_some]
      by_cases h2 : a ≥ b ∧ b ≥ c ∧ c ≥ d
      · rw [decide_eq_true h2]
        have h1' := h1
        unfold inB at h1'
        simp only [Bool.and_eq_true, decide_eq_true_eq] at h1'
        simp only [spec_voResult.j0, Bool.not_true, Bool.false_eq_true, if_false, spec_voResult.l0, l4_, v1_, v2_, v3_, v4_, r0_, r1_, r2_, r3_, c04, c14, c24, c34, c44, c00, c01, c02, c03, if_true]
        rw [w64 (x := 0 + a) (by omega) (by omega), w64 (x := 0 + a + b) (by omega) (by omega), w64 (x := 0 + a + b + c) (by omega) (by omega), w64 (by omega) (by omega), Bool.true_and, Bool.true_and]
        congr 1; rw [decide_eq_decide]; omega
      · rw [decide_eq_false h2]; simp [spec_voResult.j0]
    · rw [Bool.eq_false_iff.mpr h1]; simp [spec_voResult.j0]
  · rw [if_neg (by omega), isRes_not l h]; simp [spec_voResult.j0]

theorem resT_of (a b c d : Int) (h : isR a b c d = true) : resT [a, b, c, d] = (a, b, c, d, true) := by
  have h1 : (inB a && inB b && inB c && inB d) = true := by unfold isR at h; rw [Bool.and_eq_true] at h; exact h.1
  simp only [resT]
  rw [if_pos h1, h]

def okCR (a b c d : Nat) : Bool := !(Nat.ble (a + b + c + d) 16) || (match impl_tally_ordered.f 400 (a : Int) (b : Int) (c : Int) (d : Int), spec_voCount.f 400 [(a : Int), (b : Int), (c : Int), (d : Int)] with
  | some x, some y => decide (x = y)
  | _, _ => false)
def chkCR : Bool := (List.range 17).all fun a => (List.range (a + 1)).all fun b => (List.range (b + 1)).all fun c => (List.range (c + 1)).all fun d => okCR a b c d
theorem chkCR_true : chkCR = true := by kernel_rfl
theorem okCR_of (a b c d : Nat) (h1 : a ≤ 16) (h2 : b ≤ a) (h3 : c ≤ b) (h4 : d ≤ c) : okCR a b c d = true := by
  have h := chkCR_true
  unfold chkCR at h
  rw [List.all_eq_true] at h
  have h := h a (List.mem_range.mpr (by omega))
  rw [List.all_eq_true] at h
  have h := h b (List.mem_range.mpr (by omega))
  rw [List.all_eq_true] at h
  have h := h c (List.mem_range.mpr (by omega))
  rw [List.all_eq_true] at h
  exact h d (List.mem_range.mpr (by omega))
theorem cr_eq (a b c d : Int) (h : isR a b c d = true) : ∃ x, impl_tally_ordered.f 400 a b c d = some x ∧ spec_voCount.f 400 [a, b, c, d] = some x := by
  unfold isR inB at h
  simp only [Bool.and_eq_true, decide_eq_true_eq] at h
  obtain ⟨A, rfl⟩ := Int.eq_ofNat_of_zero_le (show 0 ≤ a by omega)
  obtain ⟨B, rfl⟩ := Int.eq_ofNat_of_zero_le (show 0 ≤ b by omega)
  obtain ⟨C, rfl⟩ := Int.eq_ofNat_of_zero_le (show 0 ≤ c by omega)
  obtain ⟨D, rfl⟩ := Int.eq_ofNat_of_zero_le (show 0 ≤ d by omega)
  have h1 := okCR_of A B C D (by omega) (by omega) (by omega) (by omega)
  unfold okCR at h1
  rw [show Nat.ble (A + B + C + D) 16 = true from Nat.ble_eq_true_of_le (by omega), Bool.not_true, Bool.false_or] at h1
  generalize impl_tally_ordered.f 400 (A : Int) (B : Int) (C : Int) (D : Int) = X at h1 ⊢
  generalize spec_voCount.f 400 [(A : Int), (B : Int), (C : Int), (D : Int)] = Y at h1 ⊢
  match X, Y, h1 with
  | some x, some y, h1 => exact ⟨x, rfl, by rw [of_decide_eq_true h1]⟩
theorem FnExactCountOrdered : laws_FnExactCountOrdered.Pure := by
  intro l hl hs hw
  by_cases hR : isRes l = true
  · have h4 : l.length = 4 := by
      by_cases h4 : l.length = 4
      · exact h4
      · rw [isRes_not l h4] at hR; exact absurd hR (by decide)
    obtain ⟨a, b, c, d, rfl⟩ := four l h4
    have hR' : isR a b c d = true := hR
    have h1 : (inB a && inB b && inB c && inB d) = true := by unfold isR at hR'; rw [Bool.and_eq_true] at hR'; exact hR'.1
    obtain ⟨x, e1, e2⟩ := cr_eq a b c d hR'
    refine ⟨400, ?_⟩
    unfold laws_FnExactCountOrdered.f
    rw [if_neg (by rw [l4_]; omega), toI_eq _ (by omega) _ (by omega)]
    simp only [Option.bind_some]
    unfold spec_CountOrdered.f impl_CountOrdered.f
    rw [voResult_eq _ _ (by omega), resultOf_eq _ _ (by omega), hR]
    simp only [Option.bind_some]
    rw [resT_of a b c d hR']
    simp only [if_true]
    rw [e1, e2]
    simp only [Option.bind_some, if_true, laws_FnExactCountOrdered.j0, bne_self_eq_false, Bool.false_eq_true, if_false]
    rw [toI_eq _ (by omega) _ (by omega)]
    simp only [Option.bind_some]
    rw [eqI_self _ (by omega) _ (by omega)]
    simp
  · refine ⟨1048600, ?_⟩
    unfold laws_FnExactCountOrdered.f
    by_cases hb : (l.length : Int) > 1048576
    · rw [if_pos hb]
    · rw [if_neg hb, toI_eq l (by omega) _ (by omega)]
      simp only [Option.bind_some]
      unfold spec_CountOrdered.f impl_CountOrdered.f
      rw [voResult_eq l _ (by omega), resultOf_eq l _ (by omega)]
      simp only [Option.bind_some]
      rw [resT_snd, Bool.eq_false_iff.mpr hR]
      simp only [Bool.false_eq_true, if_false, Option.bind_some, if_true, laws_FnExactCountOrdered.j0, bne_self_eq_false]
      rw [toI_eq l (by omega) _ (by omega)]
      simp only [Option.bind_some]
      rw [eqI_self l (by omega) _ (by omega)]
      simp

end Go.Proofs.Ytfjpejdlgmlmhaa.PuqFnExactCountOrdered
namespace Go.Proofs.Ytfjpejdlgmlmhaa.Pure
open Go.Proofs.Ytfjpejdlgmlmhaa.QFnExactCountOrdered
theorem FnExactCountOrdered : laws_FnExactCountOrdered.Pure := Go.Proofs.Ytfjpejdlgmlmhaa.PuqFnExactCountOrdered.FnExactCountOrdered
end Go.Proofs.Ytfjpejdlgmlmhaa.Pure
