/- For every list: AllOrdered of the program and of the reference answer alike. -/
import Derived.Test.YtgpebahbeccniaaQFnExactAllOrderedx11
import Derived.Test.YtgpebahbeccniaaZpl
namespace Go.Proofs.Ytgpebahbeccniaa.PuqFnExactAllOrdered
open Go.RowKit Go.Proofs.Ytgpebahbeccniaa.QFnExactAllOrdered Go.Proofs.YtgpebahbeccniaaW.PrintWords Go.Proofs.YtgpebahbeccniaaW.PrintLast Go.Proofs.YtgpebahbeccniaaPl
set_option linter.unusedVariables false

theorem eqI_self (l : List Int) (hl : l.length ≤ 1048577) (k : Nat) (hk : l.length < k) : laws_eqIntS.f k l l = some true := by
  unfold laws_eqIntS.f
  rw [if_pos rfl]
  exact (loop_range (fun k (_ : Unit) i => laws_eqIntS.l0 k l l i) l.length (fun _ _ => ()) (fun _ => true) (fun _ _ => True)
    (fun k i _ hi _ => by
      refine ⟨?_, trivial⟩
      have e3 : wrap64 ((i : Int) + 1) = ((i + 1 : Nat) : Int) := by rw [w64 (by omega) (by omega)]; omega
      simp only [laws_eqIntS.l0, e3, if_true]
      repeat rw [if_pos (by omega)])
    (fun k _ _ => by simp only [laws_eqIntS.l0]; rw [if_neg (by omega)]) k () trivial hk).1


theorem toI_eq (l : List Int) (hl : l.length ≤ 1048577) (k : Nat) (hk : l.length < k) : laws_toIntS.f k l = some l := by
  unfold laws_toIntS.f
  rw [if_pos (by omega), if_pos (by omega)]
  have := loop_range (fun k (xs : List Int) i => laws_toIntS.l0 k l xs i) l.length (fun xs i => xs.set i (rd l (i : Int))) id (fun i xs => xs.length = l.length ∧ ∀ j : Nat, j < i → rd xs (j : Int) = rd l (j : Int))
    (fun k i xs hi hI => by
      obtain ⟨h1, h2⟩ := hI
      refine ⟨?_, ?_, ?_⟩
      · have e3 : wrap64 ((i : Int) + 1) = ((i + 1 : Nat) : Int) := by rw [w64 (by omega) (by omega)]; omega
        simp only [laws_toIntS.l0, e3, Int.toNat_natCast]
        repeat rw [if_pos (by omega)]
      · simpa using h1
      · intro j hj
        by_cases e : j = i
        · subst e
          rw [rd_nat _ _ (by rw [List.length_set]; omega), List.getElem_set_self]
        · rw [rd_nat _ _ (by rw [List.length_set]; omega), List.getElem_set_ne (by omega), ← rd_nat _ _ (by omega)]
          exact h2 j (by omega))
    (fun k xs hI => by simp only [laws_toIntS.l0]; rw [if_neg (by omega)]; rfl) k (List.replicate l.length 0) ⟨by simp, fun j hj => by omega⟩ hk
  rw [show ((l.length : Int) : Int).toNat = l.length from Int.toNat_natCast _]
  obtain ⟨h1, h2, h3⟩ := this
  rw [show laws_toIntS.l0 k l (List.replicate l.length 0) 0 = _ from h1, id]
  congr 1
  refine List.ext_getElem h2 fun j ha hb => ?_
  have := h3 j hb
  rw [rd_nat _ _ hb, rd_nat _ _ ha] at this
  exact this


/-- What the marks are. -/
def Marked (a : Int) (n : Nat) (xs : List Int) : Prop := xs.length = n ∧ ∀ j : Nat, j < n → rd xs (j : Int) = a + j

theorem markI (l : List Int) (a : Int) (hl : l.length ≤ 1048577) (ha : 0 ≤ a) (ha' : a ≤ 1000000000000) (k : Nat) (hk : l.length < k) : ∃ xs, laws_markIntS.f k l a = some (a + l.length, xs) ∧ Marked a l.length xs := by
  unfold laws_markIntS.f
  have := loop_range (fun k (st : List Int × Int) i => laws_markIntS.l0 k st.1 st.2 i) l.length (fun st i => (st.1.set i st.2, st.2 + 1)) (fun st => (st.2, st.1)) (fun i st => st.1.length = l.length ∧ st.2 = a + i ∧ ∀ j : Nat, j < i → rd st.1 (j : Int) = a + j)
    (fun k i st hi hI => by
      obtain ⟨xs, x⟩ := st
      obtain ⟨h1, h2, h3⟩ := hI
      simp only at h1 h2 h3
      refine ⟨?_, ?_, ?_, ?_⟩
      · have e3 : wrap64 ((i : Int) + 1) = ((i + 1 : Nat) : Int) := by rw [w64 (by omega) (by omega)]; omega
        have e4 : wrap64 (x + 1) = x + 1 := w64 (by omega) (by omega)
        simp only [laws_markIntS.l0, e3, e4, Int.toNat_natCast]
        repeat rw [if_pos (by omega)]
      · simpa using h1
      · simp only; omega
      · intro j hj
        simp only
        by_cases e : j = i
        · subst e
          rw [rd_nat _ _ (by rw [List.length_set]; omega), List.getElem_set_self]; omega
        · rw [rd_nat _ _ (by rw [List.length_set]; omega), List.getElem_set_ne (by omega), ← rd_nat _ _ (by omega)]
          exact h3 j (by omega))
    (fun k st hI => by simp only [laws_markIntS.l0]; rw [if_neg (by omega)]) k (l, a) ⟨rfl, by simp, fun j hj => by omega⟩ hk
  obtain ⟨h1, h2⟩ := this
  refine ⟨_, ?_, h2.1, h2.2.2⟩
  rw [show laws_markIntS.l0 k l a 0 = _ from h1, h2.2.1]


theorem eqS_self (l : List ByteArray) (hl : l.length ≤ 1048577) (k : Nat) (hk : l.length < k) : laws_eqStringS.f k l l = some true := by
  unfold laws_eqStringS.f
  rw [if_pos rfl]
  exact (loop_range (fun k (_ : Unit) i => laws_eqStringS.l0 k l l i) l.length (fun _ _ => ()) (fun _ => true) (fun _ _ => True)
    (fun k i _ hi _ => by
      refine ⟨?_, trivial⟩
      have e3 : wrap64 ((i : Int) + 1) = ((i + 1 : Nat) : Int) := by rw [w64 (by omega) (by omega)]; omega
      simp only [laws_eqStringS.l0, e3, if_true]
      repeat rw [if_pos (by omega)])
    (fun k _ _ => by simp only [laws_eqStringS.l0]; rw [if_neg (by omega)]) k () trivial hk).1

/-- The text of a mark. -/
def mt (x : Int) : ByteArray := (laws_markText.f 10 x).getD ByteArray.empty
theorem mt_eq (x : Int) (h0 : 0 ≤ x) (h1 : x ≤ 400) (k : Nat) (hk : 10 ≤ k) : laws_markText.f k x = some (mt x) := by
  obtain ⟨d, rfl⟩ : ∃ d, k = 10 + d := ⟨k - 10, by omega⟩
  clear hk
  induction d with
  | zero =>
    have h := (show ∀ n : Fin 401, (laws_markText.f 10 (n.val : Int)).isSome = true by decide +kernel) ⟨x.toNat, by omega⟩
    rw [show ((x.toNat : Nat) : Int) = x by omega] at h
    unfold mt
    cases e : laws_markText.f 10 x with
    | none => rw [e] at h; cases h
    | some v => rfl
  | succ d ih => exact laws_markText.mono x (10 + d) _ ih

def MarkedS (a : Int) (n : Nat) (xs : List ByteArray) : Prop := xs.length = n ∧ ∀ j : Nat, j < n → rdOf ByteArray.empty xs (j : Int) = mt (a + j)
theorem rdOf_nat (xs : List ByteArray) (i : Nat) (h : i < xs.length) : rdOf ByteArray.empty xs (i : Int) = xs[i] := by
  unfold rdOf; rw [Int.toNat_natCast, List.getD_eq_getElem?_getD, List.getElem?_eq_getElem h]; rfl

theorem markS (l : List ByteArray) (hl : l.length ≤ 300) (k : Nat) (hk : 400 < k) : ∃ xs, laws_markStringS.f k l 1 = some (1 + (l.length : Int), xs) ∧ MarkedS 1 l.length xs := by
  unfold laws_markStringS.f
  have := loop_from (fun k (st : List ByteArray × Int) i => laws_markStringS.l0 (k + 20) st.1 st.2 i) l.length (fun st i => (st.1.set i (mt st.2), st.2 + 1)) (fun st => (st.2, st.1)) (fun i st => st.1.length = l.length ∧ st.2 = 1 + i ∧ ∀ j : Nat, j < i → rdOf ByteArray.empty st.1 (j : Int) = mt (1 + j))
    (fun k i st hi hI => by
      obtain ⟨xs, x⟩ := st
      obtain ⟨h1, h2, h3⟩ := hI
      simp only at h1 h2 h3
      refine ⟨?_, ?_, ?_, ?_⟩
      · have e3 : wrap64 ((i : Int) + 1) = ((i + 1 : Nat) : Int) := by rw [w64 (by omega) (by omega)]; omega
        have e4 : wrap64 (x + 1) = x + 1 := w64 (by omega) (by omega)
        show laws_markStringS.l0 ((k + 20) + 1) xs x (i : Int) = _
        simp only [laws_markStringS.l0, e3, e4, Int.toNat_natCast, mt_eq x (by omega) (by omega) (k + 20) (by omega), Option.bind_some]
        repeat rw [if_pos (by omega)]
      · simpa using h1
      · simp only; omega
      · intro j hj
        simp only
        by_cases e : j = i
        · subst e
          rw [rdOf_nat _ _ (by rw [List.length_set]; omega), List.getElem_set_self, h2]
        · rw [rdOf_nat _ _ (by rw [List.length_set]; omega), List.getElem_set_ne (by omega), ← rdOf_nat _ _ (by omega)]
          exact h3 j (by omega))
    (fun k st hI => by show laws_markStringS.l0 ((k + 20) + 1) st.1 st.2 (l.length : Int) = _; simp only [laws_markStringS.l0]; rw [if_neg (by omega)]) l.length (k - 20) 0 (l, 1) (by omega) ⟨rfl, by simp, fun j hj => by omega⟩ (by omega)
  obtain ⟨h1, h2⟩ := this
  refine ⟨_, ?_, h2.1, h2.2.2⟩
  have e : k - 20 + 20 = k := by omega
  rw [e] at h1
  rw [show laws_markStringS.l0 k l 1 0 = _ from h1, h2.2.1]

theorem heldS (xs : List ByteArray) (n : Nat) (hm : MarkedS 1 n xs) (hn : n ≤ 300) (k : Nat) (hk : 400 < k) : laws_heldStringS.f k xs 1 = some (1 + (n : Int)) := by
  unfold laws_heldStringS.f
  obtain ⟨h1, h2⟩ := hm
  have := loop_from (fun k (st : Int) i => laws_heldStringS.l0 (k + 20) xs st i) n (fun st _ => st + 1) id (fun i st => st = 1 + i)
    (fun k i st hi hI => by
      subst hI
      refine ⟨?_, by omega⟩
      have e3 : wrap64 ((i : Int) + 1) = ((i + 1 : Nat) : Int) := by rw [w64 (by omega) (by omega)]; omega
      have e4 : wrap64 (1 + (i : Int) + 1) = 1 + i + 1 := w64 (by omega) (by omega)
      show laws_heldStringS.l0 ((k + 20) + 1) xs _ (i : Int) = _
      simp only [laws_heldStringS.l0, e3, e4, h2 i hi, mt_eq (1 + (i : Int)) (by omega) (by omega) (k + 20) (by omega), Option.bind_some, if_true]
      repeat rw [if_pos (by omega)])
    (fun k st hI => by show laws_heldStringS.l0 ((k + 20) + 1) xs st (n : Int) = _; simp only [laws_heldStringS.l0]; rw [if_neg (by omega)]; rfl) n (k - 20) 0 1 (by omega) (by simp) (by omega)
  have e : k - 20 + 20 = k := by omega
  rw [e] at this
  rw [show laws_heldStringS.l0 k xs 1 0 = _ from this.1]
  exact congrArg some this.2

theorem falls_eq (a b c d : Int) (k : Nat) (hk : 5 < k) : spec_voFalls.f k [a, b, c, d] = some (decide (a ≥ b ∧ b ≥ c ∧ c ≥ d)) := by
  obtain ⟨k, rfl⟩ : ∃ m, k = m + 4 := ⟨k - 4, by omega⟩
  unfold spec_voFalls.f
  have w0 : wrap64 (1 - 1) = 0 := by rw [w64 (by omega) (by omega)]; rfl
  have w1 : wrap64 (2 - 1) = 1 := by rw [w64 (by omega) (by omega)]; rfl
  have w2 : wrap64 (3 - 1) = 2 := by rw [w64 (by omega) (by omega)]; rfl
  have v1 : wrap64 (1 + 1) = 2 := by rw [w64 (by omega) (by omega)]; rfl
  have v2 : wrap64 (2 + 1) = 3 := by rw [w64 (by omega) (by omega)]; rfl
  have v3 : wrap64 (3 + 1) = 4 := by rw [w64 (by omega) (by omega)]; rfl
  have r0 : rd [a, b, c, d] 0 = a := rfl
  have r1 : rd [a, b, c, d] 1 = b := rfl
  have r2 : rd [a, b, c, d] 2 = c := rfl
  have r3 : rd [a, b, c, d] 3 = d := rfl
  have l4 : (([a, b, c, d] : List Int).length : Int) = 4 := rfl
  simp only [spec_voFalls.l0, l4, w0, w1, w2, v1, v2, v3, r0, r1, r2, r3]
  simp only [show ((1 : Int) < 4) = True by simp, show ((2 : Int) < 4) = True by simp, show ((3 : Int) < 4) = True by simp, show ((0 : Int) < 4) = True by simp, show ((4 : Int) < 4) = False by simp, show ((0 : Int) ≤ 0) = True by simp, show ((0 : Int) ≤ 1) = True by simp, show ((0 : Int) ≤ 2) = True by simp, show ((0 : Int) ≤ 3) = True by simp, if_true, if_false]
  by_cases h1 : a < b
  · rw [if_pos h1, decide_eq_false (by omega)]
  · rw [if_neg h1]
    by_cases h2 : b < c
    · rw [if_pos h2, decide_eq_false (by omega)]
    · rw [if_neg h2]
      by_cases h3 : c < d
      · rw [if_pos h3, decide_eq_false (by omega)]
      · rw [if_neg h3, decide_eq_true (by omega)]

theorem ordered_eq (a b c d : Int) : impl_tally_isOrdered.f a b c d = some (decide (a ≥ b ∧ b ≥ c ∧ c ≥ d)) := by
  unfold impl_tally_isOrdered.f
  by_cases h1 : a ≥ b
  · rw [if_pos h1]
    by_cases h2 : b ≥ c
    · rw [if_pos h2]; congr 1; rw [decide_eq_decide]; omega
    · rw [if_neg h2, decide_eq_false (by omega)]
  · rw [if_neg h1, decide_eq_false (by omega)]


/-! ### small facts on four numbers -/
section
variable (a b c d : Int)
theorem v1_ : wrap64 ((0 : Int) + 1) = 1 := by rw [w64 (by omega) (by omega)]; rfl
theorem v2_ : wrap64 ((1 : Int) + 1) = 2 := by rw [w64 (by omega) (by omega)]; rfl
theorem v3_ : wrap64 ((2 : Int) + 1) = 3 := by rw [w64 (by omega) (by omega)]; rfl
theorem v4_ : wrap64 ((3 : Int) + 1) = 4 := by rw [w64 (by omega) (by omega)]; rfl
theorem r0_ : rd [a, b, c, d] 0 = a := rfl
theorem r1_ : rd [a, b, c, d] 1 = b := rfl
theorem r2_ : rd [a, b, c, d] 2 = c := rfl
theorem r3_ : rd [a, b, c, d] 3 = d := rfl
theorem l4_ : (([a, b, c, d] : List Int).length : Int) = 4 := rfl
end
theorem c04 : ((0 : Int) < 4) = True := by simp
theorem c14 : ((1 : Int) < 4) = True := by simp
theorem c24 : ((2 : Int) < 4) = True := by simp
theorem c34 : ((3 : Int) < 4) = True := by simp
theorem c44 : ((4 : Int) < 4) = False := by simp
theorem c00 : ((0 : Int) ≤ 0) = True := by simp
theorem c01 : ((0 : Int) ≤ 1) = True := by simp
theorem c02 : ((0 : Int) ≤ 2) = True := by simp
theorem c03 : ((0 : Int) ≤ 3) = True := by simp


/-- In the range of a result's numbers. -/
def inB (x : Int) : Bool := decide (0 ≤ x ∧ x ≤ 16)
def isR (a b c d : Int) : Bool := (inB a && inB b && inB c && inB d) && (decide (a ≥ b ∧ b ≥ c ∧ c ≥ d) && decide (a + b + c + d ≤ 16))
def isRes : List Int → Bool
  | [a, b, c, d] => isR a b c d
  | _ => false
def resT : List Int → Int × Int × Int × Int × Bool
  | [a, b, c, d] => if (inB a && inB b && inB c && inB d) = true then (a, b, c, d, isR a b c d) else (0, 0, 0, 0, false)
  | _ => (0, 0, 0, 0, false)
theorem four (l : List Int) (h : l.length = 4) : ∃ a b c d, l = [a, b, c, d] := by
  match l, h with
  | [a, b, c, d], _ => exact ⟨a, b, c, d, rfl⟩
theorem resT_not (l : List Int) (h : ¬ l.length = 4) : resT l = (0, 0, 0, 0, false) := by
  match l, h with
  | [], _ => rfl
  | [_], _ => rfl
  | [_, _], _ => rfl
  | [_, _, _], _ => rfl
  | [_, _, _, _], h => exact absurd rfl h
  | _ :: _ :: _ :: _ :: _ :: _, _ => rfl
theorem isRes_not (l : List Int) (h : ¬ l.length = 4) : isRes l = false := by
  match l, h with
  | [], _ => rfl
  | [_], _ => rfl
  | [_, _], _ => rfl
  | [_, _, _], _ => rfl
  | [_, _, _, _], h => exact absurd rfl h
  | _ :: _ :: _ :: _ :: _ :: _, _ => rfl
theorem resT_snd (l : List Int) : (resT l).2.2.2.2 = isRes l := by
  by_cases h : l.length = 4
  · obtain ⟨a, b, c, d, rfl⟩ := four l h
    simp only [resT, isRes]
    by_cases h1 : (inB a && inB b && inB c && inB d) = true
    · rw [if_pos h1]
    · rw [if_neg h1]; unfold isR; rw [Bool.eq_false_iff.mpr h1]; rfl
  · rw [resT_not l h, isRes_not l h]

theorem l1In_eq (x : Int) : spec_l1In.f x 0 16 = some (inB x) := by
  unfold spec_l1In.f inB
  by_cases h : x ≥ 0
  · rw [if_pos h]; congr 1; rw [decide_eq_decide]; omega
  · rw [if_neg h, decide_eq_false (by omega)]
theorem res1_eq (x : Int) : impl_resultOf_1.f x = !inB x := by
  unfold impl_resultOf_1.f inB
  rw [Bool.decide_and]

theorem l1All_eq (a b c d : Int) (k : Nat) (hk : 5 < k) : spec_l1All.f k [a, b, c, d] 0 16 = some (inB a && inB b && inB c && inB d) := by
  obtain ⟨k, rfl⟩ : ∃ m, k = m + 5 := ⟨k - 5, by omega⟩
  unfold spec_l1All.f
  simp only [spec_l1All.l0, l4_, v1_, v2_, v3_, v4_, r0_, r1_, r2_, r3_, c04, c14, c24, c34, c44, c00, c01, c02, c03, if_true, if_false, l1In_eq, Option.bind_some]
  cases inB a <;> cases inB b <;> cases inB c <;> cases inB d <;> rfl

theorem cont_eq (a b c d : Int) (k : Nat) (hk : 5 < k) : slices_ContainsFunc_int_int.f k [a, b, c, d] impl_resultOf_1.o = some (!(inB a && inB b && inB c && inB d)) := by
  obtain ⟨k, rfl⟩ : ∃ m, k = m + 5 := ⟨k - 5, by omega⟩
  unfold slices_ContainsFunc_int_int.f slices_IndexFunc_int_int.f
  simp only [slices_IndexFunc_int_int.l0, l4_, v1_, v2_, v3_, v4_, r0_, r1_, r2_, r3_, c04, c14, c24, c34, c44, c00, c01, c02, c03, if_true, if_false, res1_eq]
  cases inB a <;> cases inB b <;> cases inB c <;> cases inB d <;> rfl

theorem sum_eq (a b c d : Int) (h : (inB a && inB b && inB c && inB d) = true) : impl_tally_sum.f a b c d = some (a + b + c + d) := by
  unfold inB at h
  simp only [Bool.and_eq_true, decide_eq_true_eq] at h
  unfold impl_tally_sum.f
  rw [w64 (x := a + b) (by omega) (by omega), w64 (x := a + b + c) (by omega) (by omega), w64 (by omega) (by omega)]

theorem resultOf_eq (l : List Int) (k : Nat) (hk : 20 < k) : impl_resultOf.f k l = some (resT l) := by
  obtain ⟨k, rfl⟩ : ∃ m, k = m + 10 := ⟨k - 10, by omega⟩
  unfold impl_resultOf.f
  by_cases h : l.length = 4
  · obtain ⟨a, b, c, d, rfl⟩ := four l h
    rw [if_pos (l4_ a b c d), cont_eq a b c d _ (by omega), Option.bind_some]
    simp only [impl_resultOf.j0, resT, l4_, r0_, r1_, r2_, r3_]
    by_cases h1 : (inB a && inB b && inB c && inB d) = true
    · rw [if_pos h1, h1, if_neg (by decide), if_pos (by omega), ordered_eq, Option.bind_some, sum_eq a b c d h1]
      unfold isR
      rw [h1]
      by_cases h2 : a ≥ b ∧ b ≥ c ∧ c ≥ d
      · rw [decide_eq_true h2, if_pos rfl, Option.bind_some]; rfl
      · rw [decide_eq_false h2, if_neg (by decide)]; rfl
    · rw [if_neg h1, Bool.eq_false_iff.mpr h1]; rfl
  · rw [if_neg (by omega), resT_not l h]; rfl

theorem voResult_eq (l : List Int) (k : Nat) (hk : 20 < k) : spec_voResult.f k l = some (isRes l) := by
  obtain ⟨k, rfl⟩ : ∃ m, k = m + 10 := ⟨k - 10, by omega⟩
  unfold spec_voResult.f
  by_cases h : l.length = 4
  · obtain ⟨a, b, c, d, rfl⟩ := four l h
    rw [if_pos (l4_ a b c d), l1All_eq a b c d _ (by omega), Option.bind_some]
    show _ = some ((inB a && inB b && inB c && inB d) && (decide (a ≥ b ∧ b ≥ c ∧ c ≥ d) && decide (a + b + c + d ≤ 16)))
    by_cases h1 : (inB a && inB b && inB c && inB d) = true
    · rw [h1, if_pos rfl, falls_eq a b c d _ (by omega), Option.bind_some]
      by_cases h2 : a ≥ b ∧ b ≥ c ∧ c ≥ d
      · rw [decide_eq_true h2]
        have h1' := h1
        unfold inB at h1'
        simp only [Bool.and_eq_true, decide_eq_true_eq] at h1'
        simp only [spec_voResult.j0, Bool.not_true, Bool.false_eq_true, if_false, spec_voResult.l0, l4_, v1_, v2_, v3_, v4_, r0_, r1_, r2_, r3_, c04, c14, c24, c34, c44, c00, c01, c02, c03, if_true]
        rw [w64 (x := 0 + a) (by omega) (by omega), w64 (x := 0 + a + b) (by omega) (by omega), w64 (x := 0 + a + b + c) (by omega) (by omega), w64 (by omega) (by omega), Bool.true_and, Bool.true_and]
        congr 1; rw [decide_eq_decide]; omega
      · rw [decide_eq_false h2]; simp [spec_voResult.j0]
    · rw [Bool.eq_false_iff.mpr h1]; simp [spec_voResult.j0]
  · rw [if_neg (by omega), isRes_not l h]; simp [spec_voResult.j0]

theorem resT_of (a b c d : Int) (h : isR a b c d = true) : resT [a, b, c, d] = (a, b, c, d, true) := by
  have h1 : (inB a && inB b && inB c && inB d) = true := by unfold isR at h; rw [Bool.and_eq_true] at h; exact h.1
  simp only [resT]
  rw [if_pos h1, h]

def okCR (a b c d : Nat) : Bool := !(Nat.ble (a + b + c + d) 16) || (match impl_tally_ordered.f 400 (a : Int) (b : Int) (c : Int) (d : Int), spec_voCount.f 400 [(a : Int), (b : Int), (c : Int), (d : Int)] with
  | some x, some y => decide (x = y)
  | _, _ => false)
def chkCR : Bool := (List.range 17).all fun a => (List.range (a + 1)).all fun b => (List.range (b + 1)).all fun c => (List.range (c + 1)).all fun d => okCR a b c d
theorem chkCR_true : chkCR = true := by kernel_rfl
theorem okCR_of (a b c d : Nat) (h1 : a ≤ 16) (h2 : b ≤ a) (h3 : c ≤ b) (h4 : d ≤ c) : okCR a b c d = true := by
  have h := chkCR_true
  unfold chkCR at h
  rw [List.all_eq_true] at h
  have h := h a (List.mem_range.mpr (by omega))
  rw [List.all_eq_true] at h
  have h := h b (List.mem_range.mpr (by omega))
  rw [List.all_eq_true] at h
  have h := h c (List.mem_range.mpr (by omega))
  rw [List.all_eq_true] at h
  exact h d (List.mem_range.mpr (by omega))
theorem cr_eq (a b c d : Int) (h : isR a b c d = true) : ∃ x, impl_tally_ordered.f 400 a b c d = some x ∧ spec_voCount.f 400 [a, b, c, d] = some x := by
  unfold isR inB at h
  simp only [Bool.and_eq_true, decide_eq_true_eq] at h
  obtain ⟨A, rfl⟩ := Int.eq_ofNat_of_zero_le (show 0 ≤ a by omega)
  obtain ⟨B, rfl⟩ := Int.eq_ofNat_of_zero_le (show 0 ≤ b by omega)
  obtain ⟨C, rfl⟩ := Int.eq_ofNat_of_zero_le (show 0 ≤ c by omega)
  obtain ⟨D, rfl⟩ := Int.eq_ofNat_of_zero_le (show 0 ≤ d by omega)
  have h1 := okCR_of A B C D (by omega) (by omega) (by omega) (by omega)
  unfold okCR at h1
  rw [show Nat.ble (A + B + C + D) 16 = true from Nat.ble_eq_true_of_le (by omega), Bool.not_true, Bool.false_or] at h1
  generalize impl_tally_ordered.f 400 (A : Int) (B : Int) (C : Int) (D : Int) = X at h1 ⊢
  generalize spec_voCount.f 400 [(A : Int), (B : Int), (C : Int), (D : Int)] = Y at h1 ⊢
  match X, Y, h1 with
  | some x, some y, h1 => exact ⟨x, rfl, by rw [of_decide_eq_true h1]⟩

/-! ### ordered votes between two counts, plainly -/
def so (a b c d : Int) : Prop := a ≥ b ∧ b ≥ c ∧ c ≥ d
instance (a b c d : Int) : Decidable (so a b c d) := inferInstanceAs (Decidable (_ ∧ _))
def I (p : Prop) [Decidable p] (x : Nat) : Nat := if p then x else 0
theorem I_pos {p : Prop} [Decidable p] (h : p) (x : Nat) : I p x = x := if_pos h
theorem I_neg {p : Prop} [Decidable p] (h : ¬ p) (x : Nat) : I p x = 0 := if_neg h
theorem I_zero (p : Prop) [Decidable p] : I p 0 = 0 := by unfold I; split <;> rfl
theorem I_add (p : Prop) [Decidable p] (x y : Nat) : I p (x + y) = I p x + I p y := by unfold I; split <;> rfl
theorem I_comm (p q : Prop) [Decidable p] [Decidable q] (x : Nat) : I p (I q x) = I q (I p x) := by unfold I; split <;> split <;> rfl
/-- In how many ways m votes lead from counts to counts, ordered behind each. -/
def A : Nat → Int → Int → Int → Int → Int → Int → Int → Int → Nat
  | 0, a, b, c, d, t0, t1, t2, t3 => I (a = t0 ∧ b = t1 ∧ c = t2 ∧ d = t3) 1
  | m + 1, a, b, c, d, t0, t1, t2, t3 => I (so (a + 1) b c d) (A m (a + 1) b c d t0 t1 t2 t3) + I (so a (b + 1) c d) (A m a (b + 1) c d t0 t1 t2 t3) + I (so a b (c + 1) d) (A m a b (c + 1) d t0 t1 t2 t3) + I (so a b c (d + 1)) (A m a b c (d + 1) t0 t1 t2 t3)
theorem A_succ (m : Nat) (a b c d t0 t1 t2 t3 : Int) : A (m + 1) a b c d t0 t1 t2 t3 = I (so (a + 1) b c d) (A m (a + 1) b c d t0 t1 t2 t3) + I (so a (b + 1) c d) (A m a (b + 1) c d t0 t1 t2 t3) + I (so a b (c + 1) d) (A m a b (c + 1) d t0 t1 t2 t3) + I (so a b c (d + 1)) (A m a b c (d + 1) t0 t1 t2 t3) := rfl
theorem A_zero (t0 t1 t2 t3 : Int) : ∀ (m : Nat) (a b c d : Int), (t0 < a ∨ t1 < b ∨ t2 < c ∨ t3 < d) → A m a b c d t0 t1 t2 t3 = 0
  | 0, a, b, c, d, h => I_neg (by omega) _
  | m + 1, a, b, c, d, h => by
    rw [A_succ, A_zero t0 t1 t2 t3 m (a + 1) b c d (by omega), A_zero t0 t1 t2 t3 m a (b + 1) c d (by omega), A_zero t0 t1 t2 t3 m a b (c + 1) d (by omega), A_zero t0 t1 t2 t3 m a b c (d + 1) (by omega), I_zero, I_zero, I_zero, I_zero]
theorem A_le (t0 t1 t2 t3 : Int) : ∀ (m : Nat) (a b c d : Int), A m a b c d t0 t1 t2 t3 ≤ 4 ^ m
  | 0, a, b, c, d => by unfold A I; split <;> omega
  | m + 1, a, b, c, d => by
    have hI : ∀ (p : Prop) [Decidable p] (x : Nat), I p x ≤ x := fun p _ x => by unfold I; split <;> omega
    have h1 := Nat.le_trans (hI (so (a + 1) b c d) _) (A_le t0 t1 t2 t3 m (a + 1) b c d)
    have h2 := Nat.le_trans (hI (so a (b + 1) c d) _) (A_le t0 t1 t2 t3 m a (b + 1) c d)
    have h3 := Nat.le_trans (hI (so a b (c + 1) d) _) (A_le t0 t1 t2 t3 m a b (c + 1) d)
    have h4 := Nat.le_trans (hI (so a b c (d + 1)) _) (A_le t0 t1 t2 t3 m a b c (d + 1))
    rw [A_succ, Nat.pow_succ]
    omega
theorem A_base {p q : Prop} [Decidable p] [Decidable q] {r s : Prop} [Decidable r] [Decidable s] (h : (p ∧ r) ↔ (q ∧ s)) : I p (I r 1) = I q (I s 1) := by
  unfold I
  by_cases h1 : p <;> by_cases h2 : q <;> by_cases h3 : r <;> by_cases h4 : s <;> simp_all
/-- The last vote, told apart. -/
theorem A_last (t0 t1 t2 t3 : Int) : ∀ (m : Nat) (t0 t1 t2 t3 a b c d : Int), so a b c d → so t0 t1 t2 t3 → A (m + 1) a b c d t0 t1 t2 t3 = I (so (t0 - 1) t1 t2 t3) (A m a b c d (t0 - 1) t1 t2 t3) + I (so t0 (t1 - 1) t2 t3) (A m a b c d t0 (t1 - 1) t2 t3) + I (so t0 t1 (t2 - 1) t3) (A m a b c d t0 t1 (t2 - 1) t3) + I (so t0 t1 t2 (t3 - 1)) (A m a b c d t0 t1 t2 (t3 - 1))
  | 0, t0, t1, t2, t3, a, b, c, d, h, ht => by
    rw [A_succ]
    unfold so at h ht
    have e0 : I (so (a + 1) b c d) (A 0 (a + 1) b c d t0 t1 t2 t3) = I (so (t0 - 1) t1 t2 t3) (A 0 a b c d (t0 - 1) t1 t2 t3) := A_base (by unfold so; omega)
    have e1 : I (so a (b + 1) c d) (A 0 a (b + 1) c d t0 t1 t2 t3) = I (so t0 (t1 - 1) t2 t3) (A 0 a b c d t0 (t1 - 1) t2 t3) := A_base (by unfold so; omega)
    have e2 : I (so a b (c + 1) d) (A 0 a b (c + 1) d t0 t1 t2 t3) = I (so t0 t1 (t2 - 1) t3) (A 0 a b c d t0 t1 (t2 - 1) t3) := A_base (by unfold so; omega)
    have e3 : I (so a b c (d + 1)) (A 0 a b c (d + 1) t0 t1 t2 t3) = I (so t0 t1 t2 (t3 - 1)) (A 0 a b c d t0 t1 t2 (t3 - 1)) := A_base (by unfold so; omega)
    rw [e0, e1, e2, e3]
  | m + 1, t0, t1, t2, t3, a, b, c, d, h, ht => by
    have go : ∀ a' b' c' d' : Int, I (so a' b' c' d') (A (m + 1) a' b' c' d' t0 t1 t2 t3) = I (so (t0 - 1) t1 t2 t3) (I (so a' b' c' d') (A m a' b' c' d' (t0 - 1) t1 t2 t3)) + I (so t0 (t1 - 1) t2 t3) (I (so a' b' c' d') (A m a' b' c' d' t0 (t1 - 1) t2 t3)) + I (so t0 t1 (t2 - 1) t3) (I (so a' b' c' d') (A m a' b' c' d' t0 t1 (t2 - 1) t3)) + I (so t0 t1 t2 (t3 - 1)) (I (so a' b' c' d') (A m a' b' c' d' t0 t1 t2 (t3 - 1))) := by
      intro a' b' c' d'
      by_cases hs : so a' b' c' d'
      · rw [I_pos hs, I_pos hs, I_pos hs, I_pos hs, I_pos hs]
        exact A_last t0 t1 t2 t3 m t0 t1 t2 t3 a' b' c' d' hs ht
      · rw [I_neg hs, I_neg hs, I_neg hs, I_neg hs, I_neg hs, I_zero, I_zero, I_zero, I_zero]
    rw [A_succ, go (a + 1) b c d, go a (b + 1) c d, go a b (c + 1) d, go a b c (d + 1), A_succ m a b c d (t0 - 1), A_succ m a b c d t0 (t1 - 1), A_succ m a b c d t0 t1 (t2 - 1), A_succ m a b c d t0 t1 t2 (t3 - 1)]
    simp only [I_add]
    omega

/-! ### the hooks' formula tells the same -/
def fct : Nat → Nat
  | 0 => 1
  | n + 1 => (n + 1) * fct n
def gt1 (x j : Nat) : Nat := bif Nat.ble x j then 0 else 1
def hkR (f : Nat → Nat) (n : Nat) : Nat → Nat
  | 0 => 1
  | j + 1 => (n - j + f j) * hkR f n j
/-- The number of votes, by the hooks. -/
def hN (a b c d : Nat) : Nat := fct (a + b + c + d) / (hkR (fun j => gt1 b j + gt1 c j + gt1 d j) a a * hkR (fun j => gt1 c j + gt1 d j) b b * hkR (fun j => gt1 d j) c c * hkR (fun _ => 0) d d)
def hv (a b c d : Nat) : Option Int := spec_voCount.f 400 [(a : Int), (b : Int), (c : Int), (d : Int)]
def okV1 (a b c d : Nat) : Bool := !(Nat.ble (a + b + c + d) 16) || (match hv a b c d with
  | some x => decide (x = (hN a b c d : Int))
  | none => false)
def okRec (a b c d : Nat) : Bool := !(Nat.ble (a + b + c + d) 16) || (bif Nat.beq a 0 then Nat.beq (hN a b c d) 1 else Nat.beq (hN a b c d) ((bif Nat.ble a b then 0 else hN (a - 1) b c d) + (bif Nat.ble b c then 0 else hN a (b - 1) c d) + (bif Nat.ble c d then 0 else hN a b (c - 1) d) + (bif Nat.ble d 0 then 0 else hN a b c (d - 1))))
def chkV1 : Bool := (List.range 17).all fun a => (List.range (a + 1)).all fun b => (List.range (b + 1)).all fun c => (List.range (c + 1)).all fun d => okV1 a b c d
theorem chkV1_true : chkV1 = true := by kernel_rfl
theorem okV1_of (a b c d : Nat) (h1 : a ≤ 16) (h2 : b ≤ a) (h3 : c ≤ b) (h4 : d ≤ c) : okV1 a b c d = true := by
  have h := chkV1_true
  unfold chkV1 at h
  rw [List.all_eq_true] at h
  have h := h a (List.mem_range.mpr (by omega))
  rw [List.all_eq_true] at h
  have h := h b (List.mem_range.mpr (by omega))
  rw [List.all_eq_true] at h
  have h := h c (List.mem_range.mpr (by omega))
  rw [List.all_eq_true] at h
  exact h d (List.mem_range.mpr (by omega))
def chkRec : Bool := (List.range 17).all fun a => (List.range (a + 1)).all fun b => (List.range (b + 1)).all fun c => (List.range (c + 1)).all fun d => okRec a b c d
theorem chkRec_true : chkRec = true := by kernel_rfl
theorem okRec_of (a b c d : Nat) (h1 : a ≤ 16) (h2 : b ≤ a) (h3 : c ≤ b) (h4 : d ≤ c) : okRec a b c d = true := by
  have h := chkRec_true
  unfold chkRec at h
  rw [List.all_eq_true] at h
  have h := h a (List.mem_range.mpr (by omega))
  rw [List.all_eq_true] at h
  have h := h b (List.mem_range.mpr (by omega))
  rw [List.all_eq_true] at h
  have h := h c (List.mem_range.mpr (by omega))
  rw [List.all_eq_true] at h
  exact h d (List.mem_range.mpr (by omega))
theorem so0 : so 0 0 0 0 := by unfold so; omega
theorem hook_eq : ∀ (n a b c d : Nat), a + b + c + d = n → n ≤ 16 → b ≤ a → c ≤ b → d ≤ c → hN a b c d = A n 0 0 0 0 (a : Int) (b : Int) (c : Int) (d : Int)
  | 0, a, b, c, d, h, hn, h1, h2, h3 => by
    have ha : a = 0 := by omega
    have hb : b = 0 := by omega
    have hc : c = 0 := by omega
    have hd : d = 0 := by omega
    subst ha hb hc hd
    rfl
  | n + 1, a, b, c, d, h, hn, h1, h2, h3 => by
    have hk := okRec_of a b c d (by omega) h1 h2 h3
    unfold okRec at hk
    rw [show Nat.ble (a + b + c + d) 16 = true from Nat.ble_eq_true_of_le (by omega), Bool.not_true, Bool.false_or, show Nat.beq a 0 = false from Bool.eq_false_iff.mpr fun e => by have := Nat.eq_of_beq_eq_true e; omega] at hk
    have hk := Nat.eq_of_beq_eq_true hk
    have go : ∀ a' b' c' d' : Nat, a' + b' + c' + d' = n → b' ≤ a' → c' ≤ b' → d' ≤ c' → hN a' b' c' d' = A n 0 0 0 0 (a' : Int) (b' : Int) (c' : Int) (d' : Int) := fun a' b' c' d' e1 e2 e3 e4 => hook_eq n a' b' c' d' e1 (by omega) e2 e3 e4
    have t0 : (bif Nat.ble a b then 0 else hN (a - 1) b c d) = I (so ((a : Int) - 1) b c d) (A n 0 0 0 0 ((a : Int) - 1) b c d) := by
      by_cases e : a ≤ b
      · rw [Nat.ble_eq_true_of_le e, I_neg (by unfold so; omega)]; rfl
      · rw [show Nat.ble a b = false from Bool.eq_false_iff.mpr fun e' => e (Nat.le_of_ble_eq_true e'), I_pos (by unfold so; omega), ← show ((a - 1 : Nat) : Int) = (a : Int) - 1 by omega]
        exact go (a - 1) b c d (by omega) (by omega) (by omega) (by omega)
    have t1 : (bif Nat.ble b c then 0 else hN a (b - 1) c d) = I (so (a : Int) ((b : Int) - 1) c d) (A n 0 0 0 0 (a : Int) ((b : Int) - 1) c d) := by
      by_cases e : b ≤ c
      · rw [Nat.ble_eq_true_of_le e, I_neg (by unfold so; omega)]; rfl
      · rw [show Nat.ble b c = false from Bool.eq_false_iff.mpr fun e' => e (Nat.le_of_ble_eq_true e'), I_pos (by unfold so; omega), ← show ((b - 1 : Nat) : Int) = (b : Int) - 1 by omega]
        exact go a (b - 1) c d (by omega) (by omega) (by omega) (by omega)
    have t2 : (bif Nat.ble c d then 0 else hN a b (c - 1) d) = I (so (a : Int) b ((c : Int) - 1) d) (A n 0 0 0 0 (a : Int) b ((c : Int) - 1) d) := by
      by_cases e : c ≤ d
      · rw [Nat.ble_eq_true_of_le e, I_neg (by unfold so; omega)]; rfl
      · rw [show Nat.ble c d = false from Bool.eq_false_iff.mpr fun e' => e (Nat.le_of_ble_eq_true e'), I_pos (by unfold so; omega), ← show ((c - 1 : Nat) : Int) = (c : Int) - 1 by omega]
        exact go a b (c - 1) d (by omega) (by omega) (by omega) (by omega)
    have t3 : (bif Nat.ble d 0 then 0 else hN a b c (d - 1)) = I (so (a : Int) b c ((d : Int) - 1)) (A n 0 0 0 0 (a : Int) b c ((d : Int) - 1)) := by
      by_cases e : d ≤ 0
      · rw [Nat.ble_eq_true_of_le e, I_pos (by unfold so; omega), A_zero _ _ _ _ n 0 0 0 0 (by omega)]; rfl
      · rw [show Nat.ble d 0 = false from Bool.eq_false_iff.mpr fun e' => e (Nat.le_of_ble_eq_true e'), I_pos (by unfold so; omega), ← show ((d - 1 : Nat) : Int) = (d : Int) - 1 by omega]
        exact go a b c (d - 1) (by omega) (by omega) (by omega) (by omega)
    rw [t0, t1, t2, t3] at hk
    rw [hk, A_last 0 0 0 0 n a b c d 0 0 0 0 so0 (by unfold so; omega)]
theorem voCount_eq (a b c d : Nat) (hn : a + b + c + d ≤ 16) (h1 : b ≤ a) (h2 : c ≤ b) (h3 : d ≤ c) : hv a b c d = some (A (a + b + c + d) 0 0 0 0 (a : Int) (b : Int) (c : Int) (d : Int) : Int) := by
  have h := okV1_of a b c d (by omega) h1 h2 h3
  unfold okV1 at h
  rw [show Nat.ble (a + b + c + d) 16 = true from Nat.ble_eq_true_of_le hn, Bool.not_true, Bool.false_or] at h
  rw [← hook_eq _ a b c d rfl hn h1 h2 h3]
  generalize hv a b c d = X at h ⊢
  match X, h with
  | some x, h => rw [of_decide_eq_true h]

/-! ### the program's memo tells the same -/
theorem one_eq (of : Int → Int → Int → Int → Option Int) (x y b0 b1 b2 b3 out : Int) (n : Nat) (hz : y < x → n = 0) (hof : x ≤ y → so b0 b1 b2 b3 → of b0 b1 b2 b3 = some (n : Int)) (ho0 : 0 ≤ out) (ho : out + n ≤ 9223372036854775807) :
    impl_votesOn_2.one of x y b0 b1 b2 b3 out = some (out + (I (so b0 b1 b2 b3) n : Nat)) := by
  unfold impl_votesOn_2.one
  by_cases h : x ≤ y
  · rw [if_pos h, ordered_eq, Option.bind_some]
    by_cases hs : so b0 b1 b2 b3
    · rw [decide_eq_true (show b0 ≥ b1 ∧ b1 ≥ b2 ∧ b2 ≥ b3 from hs), if_pos rfl, hof h hs, Option.bind_some, I_pos hs, w64 (by omega) (by omega)]
    · rw [decide_eq_false (show ¬ (b0 ≥ b1 ∧ b1 ≥ b2 ∧ b2 ≥ b3) from hs), if_neg (by decide), I_neg hs]; simp
  · rw [if_neg h, hz (by omega), I_zero]; simp
theorem g_eq (t0 t1 t2 t3 : Int) (h16 : t0 ≤ 16) (ht : so t0 t1 t2 t3) : ∀ (m : Nat), m ≤ 16 → ∀ (a b c d : Int) (k : Nat), m < k → so a b c d → 0 ≤ d → a ≤ t0 → b ≤ t1 → c ≤ t2 → d ≤ t3 → (t0 + t1 + t2 + t3) - (a + b + c + d) = m →
    impl_votesOn_2.g t0 t1 t2 t3 k a b c d = some (A m a b c d t0 t1 t2 t3 : Int) := by
  intro m
  induction m with
  | zero =>
    intro hm a b c d k hk hs h0 ha hb hc hd hsum
    obtain ⟨k, rfl⟩ : ∃ j, k = j + 1 := ⟨k - 1, by omega⟩
    have e : a = t0 ∧ b = t1 ∧ c = t2 ∧ d = t3 := by omega
    show (if a = t0 ∧ b = t1 ∧ c = t2 ∧ d = t3 then some 1 else _) = _
    rw [if_pos e]
    unfold A
    rw [I_pos e]; rfl
  | succ m ih =>
    intro hm a b c d k hk hs h0 ha hb hc hd hsum
    obtain ⟨k, rfl⟩ : ∃ j, k = j + 1 := ⟨k - 1, by omega⟩
    have e : ¬ (a = t0 ∧ b = t1 ∧ c = t2 ∧ d = t3) := by omega
    have hle : ∀ a b c d : Int, A m a b c d t0 t1 t2 t3 ≤ 4294967296 := fun a b c d => Nat.le_trans (A_le _ _ _ _ _ _ _ _ _) (by have : 4 ^ m ≤ 4 ^ 16 := Nat.pow_le_pow_right (by decide) (by omega); omega)
    have hI : ∀ (p : Prop) [Decidable p] (x : Nat), x ≤ 4294967296 → I p x ≤ 4294967296 := fun p _ x hx => by unfold I; split <;> omega
    unfold so at hs ht
    have wa : wrap64 (a + 1) = a + 1 := w64 (by omega) (by omega)
    have wb : wrap64 (b + 1) = b + 1 := w64 (by omega) (by omega)
    have wc : wrap64 (c + 1) = c + 1 := w64 (by omega) (by omega)
    have wd : wrap64 (d + 1) = d + 1 := w64 (by omega) (by omega)
    have n0 := hle (a + 1) b c d
    have n1 := hle a (b + 1) c d
    have n2 := hle a b (c + 1) d
    have n3 := hle a b c (d + 1)
    have q0 := hI (so (a + 1) b c d) _ n0
    have q1 := hI (so a (b + 1) c d) _ n1
    have q2 := hI (so a b (c + 1) d) _ n2
    have s0 := one_eq (impl_votesOn_2.g t0 t1 t2 t3 k) (a + 1) t0 (a + 1) b c d 0 (A m (a + 1) b c d t0 t1 t2 t3) (fun h => A_zero _ _ _ _ _ _ _ _ _ (by omega)) (fun h hs' => ih (by omega) _ _ _ _ k (by omega) hs' h0 h hb hc hd (by omega)) (by omega) (by omega)
    have s1 := one_eq (impl_votesOn_2.g t0 t1 t2 t3 k) (b + 1) t1 a (b + 1) c d (0 + (I (so (a + 1) b c d) (A m (a + 1) b c d t0 t1 t2 t3) : Nat)) (A m a (b + 1) c d t0 t1 t2 t3) (fun h => A_zero _ _ _ _ _ _ _ _ _ (by omega)) (fun h hs' => ih (by omega) _ _ _ _ k (by omega) hs' h0 ha h hc hd (by omega)) (by omega) (by omega)
    have s2 := one_eq (impl_votesOn_2.g t0 t1 t2 t3 k) (c + 1) t2 a b (c + 1) d (0 + (I (so (a + 1) b c d) (A m (a + 1) b c d t0 t1 t2 t3) : Nat) + (I (so a (b + 1) c d) (A m a (b + 1) c d t0 t1 t2 t3) : Nat)) (A m a b (c + 1) d t0 t1 t2 t3) (fun h => A_zero _ _ _ _ _ _ _ _ _ (by omega)) (fun h hs' => ih (by omega) _ _ _ _ k (by omega) hs' h0 ha hb h hd (by omega)) (by omega) (by omega)
    have s3 := one_eq (impl_votesOn_2.g t0 t1 t2 t3 k) (d + 1) t3 a b c (d + 1) (0 + (I (so (a + 1) b c d) (A m (a + 1) b c d t0 t1 t2 t3) : Nat) + (I (so a (b + 1) c d) (A m a (b + 1) c d t0 t1 t2 t3) : Nat) + (I (so a b (c + 1) d) (A m a b (c + 1) d t0 t1 t2 t3) : Nat)) (A m a b c (d + 1) t0 t1 t2 t3) (fun h => A_zero _ _ _ _ _ _ _ _ _ (by omega)) (fun h hs' => ih (by omega) _ _ _ _ k (by omega) hs' (by omega) ha hb hc h (by omega)) (by omega) (by omega)
    show (if a = t0 ∧ b = t1 ∧ c = t2 ∧ d = t3 then some 1 else impl_votesOn_2.sum (impl_votesOn_2.g t0 t1 t2 t3 k) t0 t1 t2 t3 a b c d 4 0) = _
    rw [if_neg e]
    simp only [impl_votesOn_2.sum, impl_votesOn_2.step, wa, wb, wc, wd, s0, s1, s2, s3, Option.bind_some]
    rw [A_succ]
    congr 1
    omega

/-! ### a step of the program -/
theorem sone_eq (of : Int → Int → Int → Int → Option Int) (x y b0 b1 b2 b3 : Int) (n : Nat) (hz : y < x → n = 0) (hof : x ≤ y → so b0 b1 b2 b3 → of b0 b1 b2 b3 = some (n : Int)) :
    impl_step.one of x y b0 b1 b2 b3 = some (b0, b1, b2, b3, ((I (so b0 b1 b2 b3) n : Nat) : Int)) := by
  unfold impl_step.one
  by_cases h : x > y
  · rw [if_pos h, hz (by omega), I_zero]; rfl
  · rw [if_neg h, ordered_eq, Option.bind_some]
    by_cases hs : so b0 b1 b2 b3
    · rw [decide_eq_true (show b0 ≥ b1 ∧ b1 ≥ b2 ∧ b2 ≥ b3 from hs), if_pos rfl, hof (by omega) hs, Option.bind_some, I_pos hs]
    · rw [decide_eq_false (show ¬ (b0 ≥ b1 ∧ b1 ≥ b2 ∧ b2 ≥ b3) from hs), if_neg (by decide), I_neg hs]; rfl
section
variable (t0 t1 t2 t3 : Int) (ht : so t0 t1 t2 t3) (h16 : t0 ≤ 16) (ht0 : 0 ≤ t3) (hsum : t0 + t1 + t2 + t3 ≤ 16) (m : Nat) (a b c d : Int) (hs : so a b c d) (h0 : 0 ≤ d) (ha : a ≤ t0) (hb : b ≤ t1) (hc : c ≤ t2) (hd : d ≤ t3) (hm : t0 + t1 + t2 + t3 - (a + b + c + d) = m + 1)
include ht h16 ht0 hsum hs h0 ha hb hc hd hm
theorem step0 : impl_step.f 18 t0 t1 t2 t3 a b c d 0 = some (a + 1, b, c, d, ((I (so (a + 1) b c d) (A m (a + 1) b c d t0 t1 t2 t3) : Nat) : Int)) := by
  have _u0 := ht0
  unfold impl_step.f
  unfold so at hs ht
  rw [if_pos rfl, w64 (x := a + 1) (by omega) (by omega)]
  exact sone_eq _ _ _ _ _ _ _ _ (fun h => A_zero _ _ _ _ _ _ _ _ _ (by omega)) (fun h hs' => g_eq t0 t1 t2 t3 h16 ht m (by omega) _ _ _ _ 18 (by omega) hs' h0 h hb hc hd (by omega))
theorem step1 : impl_step.f 18 t0 t1 t2 t3 a b c d 1 = some (a, b + 1, c, d, ((I (so a (b + 1) c d) (A m a (b + 1) c d t0 t1 t2 t3) : Nat) : Int)) := by
  have _u0 := ht0
  unfold impl_step.f
  unfold so at hs ht
  rw [if_neg (by decide), if_pos rfl, w64 (x := b + 1) (by omega) (by omega)]
  exact sone_eq _ _ _ _ _ _ _ _ (fun h => A_zero _ _ _ _ _ _ _ _ _ (by omega)) (fun h hs' => g_eq t0 t1 t2 t3 h16 ht m (by omega) _ _ _ _ 18 (by omega) hs' h0 ha h hc hd (by omega))
theorem step2 : impl_step.f 18 t0 t1 t2 t3 a b c d 2 = some (a, b, c + 1, d, ((I (so a b (c + 1) d) (A m a b (c + 1) d t0 t1 t2 t3) : Nat) : Int)) := by
  have _u0 := ht0
  unfold impl_step.f
  unfold so at hs ht
  rw [if_neg (by decide), if_neg (by decide), if_pos rfl, w64 (x := c + 1) (by omega) (by omega)]
  exact sone_eq _ _ _ _ _ _ _ _ (fun h => A_zero _ _ _ _ _ _ _ _ _ (by omega)) (fun h hs' => g_eq t0 t1 t2 t3 h16 ht m (by omega) _ _ _ _ 18 (by omega) hs' h0 ha hb h hd (by omega))
theorem step3 : impl_step.f 18 t0 t1 t2 t3 a b c d 3 = some (a, b, c, d + 1, ((I (so a b c (d + 1)) (A m a b c (d + 1) t0 t1 t2 t3) : Nat) : Int)) := by
  have _u0 := ht0
  unfold impl_step.f
  unfold so at hs ht
  rw [if_neg (by decide), if_neg (by decide), if_neg (by decide), if_pos rfl, w64 (x := d + 1) (by omega) (by omega)]
  exact sone_eq _ _ _ _ _ _ _ _ (fun h => A_zero _ _ _ _ _ _ _ _ _ (by omega)) (fun h hs' => g_eq t0 t1 t2 t3 h16 ht m (by omega) _ _ _ _ 18 (by omega) hs' (by omega) ha hb hc h (by omega))
end

/-! ### the votes of a rank -/
theorem ex_abcd (t : Int) (h0 : 0 ≤ t) (h1 : t ≤ 3) : (⟨#[97, 98, 99, 100]⟩ : ByteArray).extract t.toNat (t + 1).toNat = strOfNums [97 + t] := by
  obtain h | h | h | h : t = 0 ∨ t = 1 ∨ t = 2 ∨ t = 3 := by omega
  all_goals subst h; rfl
theorem str_snoc (l : List Int) (x : Int) : strOfNums (l ++ [x]) = strOfNums l ++ strOfNums [x] := by
  apply ByteArray.ext
  rw [ByteArray.data_append]
  apply Array.ext'
  simp [strOfNums]
theorem str_size (l : List Int) : (strOfNums l).size = l.length := by
  show (strOfNums l).data.size = _
  simp [strOfNums]
section
variable (t0 t1 t2 t3 : Int) (ht : so t0 t1 t2 t3) (h16 : t0 ≤ 16) (ht0 : 0 ≤ t3) (hsum : t0 + t1 + t2 + t3 ≤ 16)
section
variable (m : Nat) (a b c d : Int) (hs : so a b c d) (h0 : 0 ≤ d) (ha : a ≤ t0) (hb : b ≤ t1) (hc : c ≤ t2) (hd : d ≤ t3) (hm : t0 + t1 + t2 + t3 - (a + b + c + d) = m + 1)
include ht h16 ht0 hsum hs h0 ha hb hc hd hm
theorem I_le (p : Prop) [Decidable p] (x y z w : Int) : ((I p (A m x y z w t0 t1 t2 t3) : Nat) : Int) ≤ 4294967296 := by
  have _u0 := ht
  have _u1 := h16
  have _u2 := ht0
  have _u3 := ha
  have _u4 := hb
  have _u5 := hc
  have _u6 := hd
  have h1 := A_le t0 t1 t2 t3 m x y z w
  have h2 : 4 ^ m ≤ 4 ^ 16 := Nat.pow_le_pow_right (by decide) (by unfold so at hs; omega)
  unfold I
  split <;> omega
theorem ir (i x : Int) (k : Nat) (out : List Int) (rk a' b' c' d' q : Int) (hi : 0 ≤ i ∧ i < 4) (hst : impl_step.f 18 t0 t1 t2 t3 a b c d i = some (a', b', c', d', q)) (hx : bt (⟨#[97, 98, 99, 100]⟩ : ByteArray) i = x) (hq : 0 ≤ q ∧ q ≤ 4294967296) (hr : 0 ≤ rk ∧ rk ≤ 4611686018427387904) (ho : out.length ≤ 1000) :
    impl_tally_ofRank.l1 (k + 1) t0 t1 t2 t3 out a b c d rk i = if rk < q then impl_tally_ofRank.l0 k t0 t1 t2 t3 (out ++ [x]) a' b' c' d' rk else impl_tally_ofRank.l1 k t0 t1 t2 t3 out a b c d (rk - q) (i + 1) := by
  have _u0 := ht
  have _u1 := h16
  have _u2 := ht0
  have _u3 := hsum
  have _u4 := hs
  have _u5 := h0
  have _u6 := ha
  have _u7 := hb
  have _u8 := hc
  have _u9 := hd
  have _u10 := hm
  rw [impl_tally_ofRank.l1, if_pos hi.2, hst, Option.bind_some]
  dsimp only
  by_cases h : rk < q
  · rw [if_pos h, if_pos h, if_pos (by omega), hx]
  · rw [if_neg h, if_neg h, w64 (x := rk - q) (by omega) (by omega), w64 (x := i + 1) (by omega) (by omega)]
end
end
theorem own_eq (l : List Int) (h : l.length < 17592186044416) : spec_l1Own.f l = some l := by
  unfold spec_l1Own.f
  rw [Option.bind_some, if_pos (by simpa using h)]; rfl
section
variable (a b c d : Int)
theorem s0_ (v : Int) : ([a, b, c, d] : List Int).set (0 : Int).toNat v = [v, b, c, d] := rfl
theorem s1_ (v : Int) : ([a, b, c, d] : List Int).set (1 : Int).toNat v = [a, v, c, d] := rfl
theorem s2_ (v : Int) : ([a, b, c, d] : List Int).set (2 : Int).toNat v = [a, b, v, d] := rfl
theorem s3_ (v : Int) : ([a, b, c, d] : List Int).set (3 : Int).toNat v = [a, b, c, v] := rfl
end
theorem mw2 (x : Int) (h0 : -9 ≤ x) (h1 : x ≤ 99) : wrap64 (x + 1) = x + 1 := w64 (by omega) (by omega)

/-! ### all ordered votes, in their order -/
def pre (x : Int) (p : Prop) [Decidable p] (L : List (List Int)) : List (List Int) := if p then L.map (x :: ·) else []
theorem pre_len (x : Int) (p : Prop) [Decidable p] (L : List (List Int)) : (pre x p L).length = I p L.length := by
  unfold pre I; split <;> simp
theorem pre_get (x : Int) (p : Prop) [Decidable p] (L : List (List Int)) (i : Nat) (h : i < (pre x p L).length) : (pre x p L).getD i [] = x :: L.getD i [] := by
  by_cases hp : p
  · unfold pre at h ⊢
    rw [if_pos hp] at h ⊢
    rw [List.length_map] at h
    rw [List.getD_eq_getElem?_getD, List.getElem?_map, List.getD_eq_getElem?_getD, List.getElem?_eq_getElem h]; rfl
  · rw [pre_len, I_neg hp] at h; omega
theorem getD_app (L M : List (List Int)) (i : Nat) : (L ++ M).getD i [] = if i < L.length then L.getD i [] else M.getD (i - L.length) [] := by
  simp only [List.getD_eq_getElem?_getD, List.getElem?_append]
  split <;> rfl
def W : Nat → Int → Int → Int → Int → Int → Int → Int → Int → List (List Int)
  | 0, a, b, c, d, t0, t1, t2, t3 => if a = t0 ∧ b = t1 ∧ c = t2 ∧ d = t3 then [[]] else []
  | m + 1, a, b, c, d, t0, t1, t2, t3 => pre 97 (so (a + 1) b c d) (W m (a + 1) b c d t0 t1 t2 t3) ++ (pre 98 (so a (b + 1) c d) (W m a (b + 1) c d t0 t1 t2 t3) ++ (pre 99 (so a b (c + 1) d) (W m a b (c + 1) d t0 t1 t2 t3) ++ pre 100 (so a b c (d + 1)) (W m a b c (d + 1) t0 t1 t2 t3)))
theorem W_succ (m : Nat) (a b c d t0 t1 t2 t3 : Int) : W (m + 1) a b c d t0 t1 t2 t3 = pre 97 (so (a + 1) b c d) (W m (a + 1) b c d t0 t1 t2 t3) ++ (pre 98 (so a (b + 1) c d) (W m a (b + 1) c d t0 t1 t2 t3) ++ (pre 99 (so a b (c + 1) d) (W m a b (c + 1) d t0 t1 t2 t3) ++ pre 100 (so a b c (d + 1)) (W m a b c (d + 1) t0 t1 t2 t3))) := rfl
theorem W_len (t0 t1 t2 t3 : Int) : ∀ (m : Nat) (a b c d : Int), (W m a b c d t0 t1 t2 t3).length = A m a b c d t0 t1 t2 t3
  | 0, a, b, c, d => by unfold W A I; split <;> rfl
  | m + 1, a, b, c, d => by
    rw [W_succ, A_succ, List.length_append, List.length_append, List.length_append, pre_len, pre_len, pre_len, pre_len, W_len t0 t1 t2 t3 m, W_len t0 t1 t2 t3 m, W_len t0 t1 t2 t3 m, W_len t0 t1 t2 t3 m]
    omega
theorem W_nil (t0 t1 t2 t3 : Int) (m : Nat) (a b c d : Int) (h : t0 < a ∨ t1 < b ∨ t2 < c ∨ t3 < d) : W m a b c d t0 t1 t2 t3 = [] := List.eq_nil_of_length_eq_zero (by rw [W_len, A_zero _ _ _ _ m _ _ _ _ h])
section
variable (t0 t1 t2 t3 : Int) (ht : so t0 t1 t2 t3) (h16 : t0 ≤ 16) (ht0 : 0 ≤ t3) (hsum : t0 + t1 + t2 + t3 ≤ 16)
include ht h16 ht0 hsum in
/-- The program finds the word of a rank. -/
theorem walkI : ∀ (m : Nat), m ≤ 16 → ∀ (a b c d rk : Int) (out : List Int), so a b c d → 0 ≤ d → a ≤ t0 → b ≤ t1 → c ≤ t2 → d ≤ t3 → t0 + t1 + t2 + t3 - (a + b + c + d) = m → 0 ≤ rk → rk < (A m a b c d t0 t1 t2 t3 : Int) → out.length + m ≤ 100 →
    ∀ k, 6 * m < k → impl_tally_ofRank.l0 k t0 t1 t2 t3 out a b c d rk = some (strOfNums (out ++ (W m a b c d t0 t1 t2 t3).getD rk.toNat []), true) := by
  intro m
  induction m with
  | zero =>
    intro hm a b c d rk out hs h0 ha hb hc hd hsm hr0 hr ho k hk
    have e : a = t0 ∧ b = t1 ∧ c = t2 ∧ d = t3 := by omega
    obtain ⟨k, rfl⟩ : ∃ j, k = j + 1 := ⟨k - 1, by omega⟩
    have e2 : (W 0 a b c d t0 t1 t2 t3).getD rk.toNat [] = [] := by
      have hr' : A 0 a b c d t0 t1 t2 t3 = 1 := by unfold A; exact I_pos e 1
      rw [show rk.toNat = 0 by omega]
      unfold W; rw [if_pos e]; rfl
    rw [impl_tally_ofRank.l0, if_pos e, e2, List.append_nil]
  | succ m ih =>
    intro hm a b c d rk out hs h0 ha hb hc hd hsm hr0 hr ho k hk
    have e : ¬ (a = t0 ∧ b = t1 ∧ c = t2 ∧ d = t3) := by omega
    have hsm' : t0 + t1 + t2 + t3 - (a + b + c + d) = (m : Int) + 1 := by omega
    have hAl : A (m + 1) a b c d t0 t1 t2 t3 ≤ 4 ^ 16 := Nat.le_trans (A_le _ _ _ _ _ _ _ _ _) (Nat.pow_le_pow_right (by decide) (by omega))
    have hrb : rk ≤ 4294967296 := by omega
    clear hAl
    rw [A_succ] at hr
    have hle := I_le t0 t1 t2 t3 ht h16 ht0 hsum m a b c d hs h0 ha hb hc hd hsm'
    have q0 := hle (so (a + 1) b c d) (a + 1) b c d
    have q1 := hle (so a (b + 1) c d) a (b + 1) c d
    have q2 := hle (so a b (c + 1) d) a b (c + 1) d
    have q3 := hle (so a b c (d + 1)) a b c (d + 1)
    have z0 : 0 < I (so (a + 1) b c d) (A m (a + 1) b c d t0 t1 t2 t3) → so (a + 1) b c d ∧ a + 1 ≤ t0 ∧ I (so (a + 1) b c d) (A m (a + 1) b c d t0 t1 t2 t3) = A m (a + 1) b c d t0 t1 t2 t3 := fun h => by
      by_cases hso : so (a + 1) b c d
      · refine ⟨hso, ?_, I_pos hso _⟩
        by_cases hx : a + 1 ≤ t0
        · exact hx
        · rw [A_zero _ _ _ _ m _ _ _ _ (by omega), I_zero] at h; omega
      · rw [I_neg hso] at h; omega
    have z1 : 0 < I (so a (b + 1) c d) (A m a (b + 1) c d t0 t1 t2 t3) → so a (b + 1) c d ∧ b + 1 ≤ t1 ∧ I (so a (b + 1) c d) (A m a (b + 1) c d t0 t1 t2 t3) = A m a (b + 1) c d t0 t1 t2 t3 := fun h => by
      by_cases hso : so a (b + 1) c d
      · refine ⟨hso, ?_, I_pos hso _⟩
        by_cases hx : b + 1 ≤ t1
        · exact hx
        · rw [A_zero _ _ _ _ m _ _ _ _ (by omega), I_zero] at h; omega
      · rw [I_neg hso] at h; omega
    have z2 : 0 < I (so a b (c + 1) d) (A m a b (c + 1) d t0 t1 t2 t3) → so a b (c + 1) d ∧ c + 1 ≤ t2 ∧ I (so a b (c + 1) d) (A m a b (c + 1) d t0 t1 t2 t3) = A m a b (c + 1) d t0 t1 t2 t3 := fun h => by
      by_cases hso : so a b (c + 1) d
      · refine ⟨hso, ?_, I_pos hso _⟩
        by_cases hx : c + 1 ≤ t2
        · exact hx
        · rw [A_zero _ _ _ _ m _ _ _ _ (by omega), I_zero] at h; omega
      · rw [I_neg hso] at h; omega
    have z3 : 0 < I (so a b c (d + 1)) (A m a b c (d + 1) t0 t1 t2 t3) → so a b c (d + 1) ∧ d + 1 ≤ t3 ∧ I (so a b c (d + 1)) (A m a b c (d + 1) t0 t1 t2 t3) = A m a b c (d + 1) t0 t1 t2 t3 := fun h => by
      by_cases hso : so a b c (d + 1)
      · refine ⟨hso, ?_, I_pos hso _⟩
        by_cases hx : d + 1 ≤ t3
        · exact hx
        · rw [A_zero _ _ _ _ m _ _ _ _ (by omega), I_zero] at h; omega
      · rw [I_neg hso] at h; omega
    have i0 := step0 t0 t1 t2 t3 ht h16 ht0 hsum m a b c d hs h0 ha hb hc hd hsm'
    have i1 := step1 t0 t1 t2 t3 ht h16 ht0 hsum m a b c d hs h0 ha hb hc hd hsm'
    have i2 := step2 t0 t1 t2 t3 ht h16 ht0 hsum m a b c d hs h0 ha hb hc hd hsm'
    have i3 := step3 t0 t1 t2 t3 ht h16 ht0 hsum m a b c d hs h0 ha hb hc hd hsm'
    have R := ir t0 t1 t2 t3 ht h16 ht0 hsum m a b c d hs h0 ha hb hc hd hsm'
    have l0 : (pre 97 (so (a + 1) b c d) (W m (a + 1) b c d t0 t1 t2 t3)).length = I (so (a + 1) b c d) (A m (a + 1) b c d t0 t1 t2 t3) := by rw [pre_len, W_len]
    have l1 : (pre 98 (so a (b + 1) c d) (W m a (b + 1) c d t0 t1 t2 t3)).length = I (so a (b + 1) c d) (A m a (b + 1) c d t0 t1 t2 t3) := by rw [pre_len, W_len]
    have l2 : (pre 99 (so a b (c + 1) d) (W m a b (c + 1) d t0 t1 t2 t3)).length = I (so a b (c + 1) d) (A m a b (c + 1) d t0 t1 t2 t3) := by rw [pre_len, W_len]
    have l3 : (pre 100 (so a b c (d + 1)) (W m a b c (d + 1) t0 t1 t2 t3)).length = I (so a b c (d + 1)) (A m a b c (d + 1) t0 t1 t2 t3) := by rw [pre_len, W_len]
    have g0 := pre_get 97 (so (a + 1) b c d) (W m (a + 1) b c d t0 t1 t2 t3)
    have g1 := pre_get 98 (so a (b + 1) c d) (W m a (b + 1) c d t0 t1 t2 t3)
    have g2 := pre_get 99 (so a b (c + 1) d) (W m a b (c + 1) d t0 t1 t2 t3)
    have g3 := pre_get 100 (so a b c (d + 1)) (W m a b c (d + 1) t0 t1 t2 t3)
    rw [W_succ]
    generalize pre 97 (so (a + 1) b c d) (W m (a + 1) b c d t0 t1 t2 t3) = P0 at *
    generalize pre 98 (so a (b + 1) c d) (W m a (b + 1) c d t0 t1 t2 t3) = P1 at *
    generalize pre 99 (so a b (c + 1) d) (W m a b (c + 1) d t0 t1 t2 t3) = P2 at *
    generalize pre 100 (so a b c (d + 1)) (W m a b c (d + 1) t0 t1 t2 t3) = P3 at *
    generalize e0 : I (so (a + 1) b c d) (A m (a + 1) b c d t0 t1 t2 t3) = n0 at *
    generalize e1 : I (so a (b + 1) c d) (A m a (b + 1) c d t0 t1 t2 t3) = n1 at *
    generalize e2 : I (so a b (c + 1) d) (A m a b (c + 1) d t0 t1 t2 t3) = n2 at *
    generalize e3 : I (so a b c (d + 1)) (A m a b c (d + 1) t0 t1 t2 t3) = n3 at *
    obtain ⟨k, rfl⟩ : ∃ j, k = (j + 4) + 1 := ⟨k - 5, by omega⟩
    rw [impl_tally_ofRank.l0, if_neg e]
    have fin : ∀ (x : Int) (w : List Int), out ++ [x] ++ w = out ++ (x :: w) := fun x w => by simp
    by_cases c0 : rk < (n0 : Int)
    · obtain ⟨y1, y2, y3⟩ := z0 (by omega)
      rw [R 0 97 (k + 3) out rk _ _ _ _ _ (by omega) i0 rfl (by omega) (by omega) (by omega), if_pos c0, ih (by omega) _ _ _ _ rk _ y1 h0 y2 hb hc hd (by omega) hr0 (by omega) (by simp; omega) _ (by omega), fin, getD_app, if_pos (by omega), g0 _ (by omega)]
    by_cases c1 : rk - (n0 : Int) < (n1 : Int)
    · obtain ⟨y1, y2, y3⟩ := z1 (by omega)
      rw [R 0 97 (k + 3) out rk _ _ _ _ _ (by omega) i0 rfl (by omega) (by omega) (by omega), if_neg c0, show (0 : Int) + 1 = 1 from rfl, R 1 98 (k + 2) out (rk - n0) _ _ _ _ _ (by omega) i1 rfl (by omega) (by omega) (by omega), if_pos c1, ih (by omega) _ _ _ _ (rk - n0) _ y1 h0 ha y2 hc hd (by omega) (by omega) (by omega) (by simp; omega) _ (by omega), fin, getD_app, if_neg (by omega), getD_app, if_pos (by omega), g1 _ (by omega), show rk.toNat - P0.length = (rk - n0).toNat by omega]
    by_cases c2 : rk - (n0 : Int) - (n1 : Int) < (n2 : Int)
    · obtain ⟨y1, y2, y3⟩ := z2 (by omega)
      rw [R 0 97 (k + 3) out rk _ _ _ _ _ (by omega) i0 rfl (by omega) (by omega) (by omega), if_neg c0, show (0 : Int) + 1 = 1 from rfl, R 1 98 (k + 2) out (rk - n0) _ _ _ _ _ (by omega) i1 rfl (by omega) (by omega) (by omega), if_neg c1, show (1 : Int) + 1 = 2 from rfl, R 2 99 (k + 1) out (rk - n0 - n1) _ _ _ _ _ (by omega) i2 rfl (by omega) (by omega) (by omega), if_pos c2, ih (by omega) _ _ _ _ (rk - n0 - n1) _ y1 h0 ha hb y2 hd (by omega) (by omega) (by omega) (by simp; omega) _ (by omega), fin, getD_app, if_neg (by omega), getD_app, if_neg (by omega), getD_app, if_pos (by omega), g2 _ (by omega), show rk.toNat - P0.length - P1.length = (rk - n0 - n1).toNat by omega]
    have c3 : rk - (n0 : Int) - (n1 : Int) - (n2 : Int) < (n3 : Int) := by omega
    obtain ⟨y1, y2, y3⟩ := z3 (by omega)
    rw [R 0 97 (k + 3) out rk _ _ _ _ _ (by omega) i0 rfl (by omega) (by omega) (by omega), if_neg c0, show (0 : Int) + 1 = 1 from rfl, R 1 98 (k + 2) out (rk - n0) _ _ _ _ _ (by omega) i1 rfl (by omega) (by omega) (by omega), if_neg c1, show (1 : Int) + 1 = 2 from rfl, R 2 99 (k + 1) out (rk - n0 - n1) _ _ _ _ _ (by omega) i2 rfl (by omega) (by omega) (by omega), if_neg c2, show (2 : Int) + 1 = 3 from rfl, R 3 100 k out (rk - n0 - n1 - n2) _ _ _ _ _ (by omega) i3 rfl (by omega) (by omega) (by omega), if_pos c3, ih (by omega) _ _ _ _ (rk - n0 - n1 - n2) _ y1 (by omega) ha hb hc y2 (by omega) (by omega) (by omega) (by simp; omega) _ (by omega), fin, getD_app, if_neg (by omega), getD_app, if_neg (by omega), getD_app, if_neg (by omega), g3 _ (by omega), show rk.toNat - P0.length - P1.length - P2.length = (rk - n0 - n1 - n2).toNat by omega]
end

/-! ### the reference's search tells all words -/
section
variable (t0 t1 t2 t3 a b c d : Int) (B : ByteArray) (hz : B.size ≤ 1000) (L : List ByteArray)
theorem mv (x : Int) (h : -9 ≤ x ∧ x ≤ 99) : wrap64 (x + 1) = x + 1 := w64 (by omega) (by omega)
include hz in
theorem lk0 (hu : -9 ≤ a ∧ a ≤ 99) (hL : a = t0 → L = []) (k : Nat) (hf : a ≠ t0 → spec_voLook.f k (B ++ strOfNums [97]) [a + 1, b, c, d] [t0, t1, t2, t3] = some L) (done : Bool) (acc : List ByteArray) :
    ∃ e, e ≤ 1 ∧ spec_voLook.l0 (k + 2) B [a, b, c, d] [t0, t1, t2, t3] 0 done acc = spec_voLook.l0 (k + e) B [a, b, c, d] [t0, t1, t2, t3] 1 (done && decide (a = t0)) (acc ++ L) := by
  rw [spec_voLook.l0, if_pos (by rw [l4_]; decide), if_pos (by decide), if_pos (by rw [l4_]; decide)]
  by_cases h : a = t0
  · exact ⟨1, by omega, by rw [if_pos (show rd [a, b, c, d] 0 = rd [t0, t1, t2, t3] 0 from h), v1_, hL h, decide_eq_true h, Bool.and_true, List.append_nil]⟩
  · have e1 : (⟨#[97, 98, 99, 100]⟩ : ByteArray).extract (0 : Int).toNat (wrap64 (0 + 1)).toNat = strOfNums [97] := by rw [v1_]; exact ex_abcd 0 (by omega) (by omega)
    refine ⟨0, by omega, ?_⟩
    rw [if_neg (show ¬ rd [a, b, c, d] 0 = rd [t0, t1, t2, t3] 0 from h), if_neg (by decide), spec_voLook.j1, own_eq _ (by simp), Option.bind_some, l4_, if_pos (by decide), e1, v1_, if_pos (by decide), if_pos (by decide), if_pos (by rw [str_size]; simp; omega), s0_, r0_, mv a hu, hf h, Option.bind_some, decide_eq_false h, Bool.and_false]
    rfl
include hz in
theorem lk1 (hu : -9 ≤ b ∧ b ≤ 99) (hL : b = t1 ∨ a = b → L = []) (k : Nat) (hf : b ≠ t1 → a ≠ b → spec_voLook.f k (B ++ strOfNums [98]) [a, b + 1, c, d] [t0, t1, t2, t3] = some L) (done : Bool) (acc : List ByteArray) :
    ∃ e, e ≤ 1 ∧ spec_voLook.l0 (k + 2) B [a, b, c, d] [t0, t1, t2, t3] 1 done acc = spec_voLook.l0 (k + e) B [a, b, c, d] [t0, t1, t2, t3] 2 (done && decide (b = t1)) (acc ++ L) := by
  have e0 : wrap64 (1 - 1) = 0 := by rw [w64 (by omega) (by omega)]; rfl
  rw [spec_voLook.l0]
  simp only [l4_, r1_, r0_, c14, c04, c00, c01, if_true, e0]
  by_cases h : b = t1
  · exact ⟨1, by omega, by rw [if_pos h, v2_, hL (.inl h), decide_eq_true h, Bool.and_true, List.append_nil]⟩
  · rw [if_neg h, if_pos (by decide)]
    by_cases h3 : a = b
    · exact ⟨1, by omega, by rw [if_pos h3, v2_, hL (.inr h3), decide_eq_false h, Bool.and_false, List.append_nil]⟩
    · have e1 : (⟨#[97, 98, 99, 100]⟩ : ByteArray).extract (1 : Int).toNat (wrap64 (1 + 1)).toNat = strOfNums [98] := by rw [v2_]; exact ex_abcd 1 (by omega) (by omega)
      refine ⟨0, by omega, ?_⟩
      rw [if_neg h3, spec_voLook.j1, own_eq _ (by simp), Option.bind_some, l4_, if_pos (by decide), e1, v2_, if_pos (by decide), if_pos (by decide), if_pos (by rw [str_size]; simp; omega), s1_, r1_, mv b hu, hf h h3, Option.bind_some, decide_eq_false h, Bool.and_false]
      rfl
include hz in
theorem lk2 (hu : -9 ≤ c ∧ c ≤ 99) (hL : c = t2 ∨ b = c → L = []) (k : Nat) (hf : c ≠ t2 → b ≠ c → spec_voLook.f k (B ++ strOfNums [99]) [a, b, c + 1, d] [t0, t1, t2, t3] = some L) (done : Bool) (acc : List ByteArray) :
    ∃ e, e ≤ 1 ∧ spec_voLook.l0 (k + 2) B [a, b, c, d] [t0, t1, t2, t3] 2 done acc = spec_voLook.l0 (k + e) B [a, b, c, d] [t0, t1, t2, t3] 3 (done && decide (c = t2)) (acc ++ L) := by
  have e0 : wrap64 (2 - 1) = 1 := by rw [w64 (by omega) (by omega)]; rfl
  rw [spec_voLook.l0]
  simp only [l4_, r2_, r1_, c24, c14, c01, c02, if_true, e0]
  by_cases h : c = t2
  · exact ⟨1, by omega, by rw [if_pos h, v3_, hL (.inl h), decide_eq_true h, Bool.and_true, List.append_nil]⟩
  · rw [if_neg h, if_pos (by decide)]
    by_cases h3 : b = c
    · exact ⟨1, by omega, by rw [if_pos h3, v3_, hL (.inr h3), decide_eq_false h, Bool.and_false, List.append_nil]⟩
    · have e1 : (⟨#[97, 98, 99, 100]⟩ : ByteArray).extract (2 : Int).toNat (wrap64 (2 + 1)).toNat = strOfNums [99] := by rw [v3_]; exact ex_abcd 2 (by omega) (by omega)
      refine ⟨0, by omega, ?_⟩
      rw [if_neg h3, spec_voLook.j1, own_eq _ (by simp), Option.bind_some, l4_, if_pos (by decide), e1, v3_, if_pos (by decide), if_pos (by decide), if_pos (by rw [str_size]; simp; omega), s2_, r2_, mv c hu, hf h h3, Option.bind_some, decide_eq_false h, Bool.and_false]
      rfl
include hz in
theorem lk3 (hu : -9 ≤ d ∧ d ≤ 99) (hL : d = t3 ∨ c = d → L = []) (k : Nat) (hf : d ≠ t3 → c ≠ d → spec_voLook.f k (B ++ strOfNums [100]) [a, b, c, d + 1] [t0, t1, t2, t3] = some L) (done : Bool) (acc : List ByteArray) :
    ∃ e, e ≤ 1 ∧ spec_voLook.l0 (k + 2) B [a, b, c, d] [t0, t1, t2, t3] 3 done acc = spec_voLook.l0 (k + e) B [a, b, c, d] [t0, t1, t2, t3] 4 (done && decide (d = t3)) (acc ++ L) := by
  have e0 : wrap64 (3 - 1) = 2 := by rw [w64 (by omega) (by omega)]; rfl
  rw [spec_voLook.l0]
  simp only [l4_, r3_, r2_, c34, c24, c02, c03, if_true, e0]
  by_cases h : d = t3
  · exact ⟨1, by omega, by rw [if_pos h, v4_, hL (.inl h), decide_eq_true h, Bool.and_true, List.append_nil]⟩
  · rw [if_neg h, if_pos (by decide)]
    by_cases h3 : c = d
    · exact ⟨1, by omega, by rw [if_pos h3, v4_, hL (.inr h3), decide_eq_false h, Bool.and_false, List.append_nil]⟩
    · have e1 : (⟨#[97, 98, 99, 100]⟩ : ByteArray).extract (3 : Int).toNat (wrap64 (3 + 1)).toNat = strOfNums [100] := by rw [v4_]; exact ex_abcd 3 (by omega) (by omega)
      refine ⟨0, by omega, ?_⟩
      rw [if_neg h3, spec_voLook.j1, own_eq _ (by simp), Option.bind_some, l4_, if_pos (by decide), e1, v4_, if_pos (by decide), if_pos (by decide), if_pos (by rw [str_size]; simp; omega), s3_, r3_, mv d hu, hf h h3, Option.bind_some, decide_eq_false h, Bool.and_false]
      rfl
end
/-- The words, spelled behind what is out. -/
def sp (out : List Int) (L : List (List Int)) : List ByteArray := L.map fun w => strOfNums (out ++ w)
theorem sp_app (out : List Int) (L M : List (List Int)) : sp out (L ++ M) = sp out L ++ sp out M := List.map_append
theorem sp_pos (out : List Int) (x : Int) (p : Prop) [Decidable p] (L : List (List Int)) (h : p) : sp out (pre x p L) = sp (out ++ [x]) L := by
  unfold sp pre
  rw [if_pos h, List.map_map]
  refine List.map_congr_left fun w _ => ?_
  simp
theorem sp_neg (out : List Int) (x : Int) (p : Prop) [Decidable p] (L : List (List Int)) (h : ¬ p) : sp out (pre x p L) = [] := by
  unfold sp pre
  rw [if_neg h]; rfl
theorem sp_nil (out : List Int) (x : Int) (p : Prop) [Decidable p] (L : List (List Int)) (h : L = []) : sp out (pre x p L) = [] := by
  subst h
  unfold sp pre
  split <;> rfl
section
variable (t0 t1 t2 t3 : Int) (ht : so t0 t1 t2 t3) (h16 : t0 ≤ 16) (ht0 : 0 ≤ t3)
include ht h16 ht0 in
theorem look_eq : ∀ (m : Nat), m ≤ 64 → ∀ (a b c d : Int) (out : List Int), so a b c d → 0 ≤ d → a ≤ t0 → b ≤ t1 → c ≤ t2 → d ≤ t3 → t0 + t1 + t2 + t3 - (a + b + c + d) = m → out.length + m ≤ 100 →
    ∀ k, 20 * (m + 1) ≤ k → spec_voLook.f k (strOfNums out) [a, b, c, d] [t0, t1, t2, t3] = some (sp out (W m a b c d t0 t1 t2 t3)) := by
  intro m
  induction m with
  | zero =>
    intro hm a b c d out hs h0 ha hb hc hd hsm ho k hk
    obtain ⟨rfl, rfl, rfl, rfl⟩ : a = t0 ∧ b = t1 ∧ c = t2 ∧ d = t3 := by omega
    obtain ⟨k, rfl⟩ : ∃ j, k = (j + 9) + 1 := ⟨k - 10, by omega⟩
    have hz : (strOfNums out).size ≤ 1000 := by rw [str_size]; omega
    unfold so at hs
    have L0 := lk0 a b c d a b c d (strOfNums out) hz [] (by omega) (fun _ => rfl)
    have L1 := lk1 a b c d a b c d (strOfNums out) hz [] (by omega) (fun _ => rfl)
    have L2 := lk2 a b c d a b c d (strOfNums out) hz [] (by omega) (fun _ => rfl)
    have L3 := lk3 a b c d a b c d (strOfNums out) hz [] (by omega) (fun _ => rfl)
    rw [spec_voLook.f]
    obtain ⟨e0, q0, x0⟩ := L0 (k + 7) (fun h => absurd rfl h) true []
    rw [show k + 9 = k + 7 + 2 from rfl, x0, show k + 7 + e0 = (k + 5 + e0) + 2 by omega]
    obtain ⟨e1, q1, x1⟩ := L1 (k + 5 + e0) (fun h => absurd rfl h) (true && decide (a = a)) ([] ++ [])
    rw [x1, show k + 5 + e0 + e1 = (k + 3 + e0 + e1) + 2 by omega]
    obtain ⟨e2, q2, x2⟩ := L2 (k + 3 + e0 + e1) (fun h => absurd rfl h) (true && decide (a = a) && decide (b = b)) ([] ++ [] ++ [])
    rw [x2, show k + 3 + e0 + e1 + e2 = (k + 1 + e0 + e1 + e2) + 2 by omega]
    obtain ⟨e3, q3, x3⟩ := L3 (k + 1 + e0 + e1 + e2) (fun h => absurd rfl h) (true && decide (a = a) && decide (b = b) && decide (c = c)) ([] ++ [] ++ [] ++ [])
    rw [x3, show k + 1 + e0 + e1 + e2 + e3 = (k + e0 + e1 + e2 + e3) + 1 by omega, spec_voLook.l0, l4_, if_neg (by decide), if_pos (by simp)]
    unfold W
    rw [if_pos ⟨rfl, rfl, rfl, rfl⟩]
    simp [sp]
  | succ m ih =>
    intro hm a b c d out hs h0 ha hb hc hd hsm ho k hk
    have e : ¬ (a = t0 ∧ b = t1 ∧ c = t2 ∧ d = t3) := by omega
    obtain ⟨k, rfl⟩ : ∃ j, k = (j + 9) + 1 := ⟨k - 10, by omega⟩
    have hz : (strOfNums out).size ≤ 1000 := by rw [str_size]; omega
    have hs' := hs
    unfold so at hs'
    rw [W_succ, sp_app, sp_app, sp_app]
    have L0 := lk0 t0 t1 t2 t3 a b c d (strOfNums out) hz (sp out (pre 97 (so (a + 1) b c d) (W m (a + 1) b c d t0 t1 t2 t3))) (by omega) (fun h => sp_nil _ _ _ _ (W_nil _ _ _ _ _ _ _ _ _ (by omega)))
    have L1 := lk1 t0 t1 t2 t3 a b c d (strOfNums out) hz (sp out (pre 98 (so a (b + 1) c d) (W m a (b + 1) c d t0 t1 t2 t3))) (by omega) (fun h => by
      rcases h with h | h
      · exact sp_nil _ _ _ _ (W_nil _ _ _ _ _ _ _ _ _ (by omega))
      · exact sp_neg _ _ _ _ (by unfold so; omega))
    have L2 := lk2 t0 t1 t2 t3 a b c d (strOfNums out) hz (sp out (pre 99 (so a b (c + 1) d) (W m a b (c + 1) d t0 t1 t2 t3))) (by omega) (fun h => by
      rcases h with h | h
      · exact sp_nil _ _ _ _ (W_nil _ _ _ _ _ _ _ _ _ (by omega))
      · exact sp_neg _ _ _ _ (by unfold so; omega))
    have L3 := lk3 t0 t1 t2 t3 a b c d (strOfNums out) hz (sp out (pre 100 (so a b c (d + 1)) (W m a b c (d + 1) t0 t1 t2 t3))) (by omega) (fun h => by
      rcases h with h | h
      · exact sp_nil _ _ _ _ (W_nil _ _ _ _ _ _ _ _ _ (by omega))
      · exact sp_neg _ _ _ _ (by unfold so; omega))
    have F0 : ∀ k, 20 * (m + 1) ≤ k → a ≠ t0 → spec_voLook.f k (strOfNums out ++ strOfNums [97]) [a + 1, b, c, d] [t0, t1, t2, t3] = some (sp out (pre 97 (so (a + 1) b c d) (W m (a + 1) b c d t0 t1 t2 t3))) := fun k hk h => by
      have hso : so (a + 1) b c d := by unfold so; omega
      rw [sp_pos _ _ _ _ hso, ← str_snoc]
      exact ih (by omega) (a + 1) b c d (out ++ [97]) hso h0 (by omega) hb hc hd (by omega) (by simp; omega) k hk
    have F1 : ∀ k, 20 * (m + 1) ≤ k → b ≠ t1 → a ≠ b → spec_voLook.f k (strOfNums out ++ strOfNums [98]) [a, b + 1, c, d] [t0, t1, t2, t3] = some (sp out (pre 98 (so a (b + 1) c d) (W m a (b + 1) c d t0 t1 t2 t3))) := fun k hk h h' => by
      have hso : so a (b + 1) c d := by unfold so; omega
      rw [sp_pos _ _ _ _ hso, ← str_snoc]
      exact ih (by omega) a (b + 1) c d (out ++ [98]) hso h0 ha (by omega) hc hd (by omega) (by simp; omega) k hk
    have F2 : ∀ k, 20 * (m + 1) ≤ k → c ≠ t2 → b ≠ c → spec_voLook.f k (strOfNums out ++ strOfNums [99]) [a, b, c + 1, d] [t0, t1, t2, t3] = some (sp out (pre 99 (so a b (c + 1) d) (W m a b (c + 1) d t0 t1 t2 t3))) := fun k hk h h' => by
      have hso : so a b (c + 1) d := by unfold so; omega
      rw [sp_pos _ _ _ _ hso, ← str_snoc]
      exact ih (by omega) a b (c + 1) d (out ++ [99]) hso h0 ha hb (by omega) hd (by omega) (by simp; omega) k hk
    have F3 : ∀ k, 20 * (m + 1) ≤ k → d ≠ t3 → c ≠ d → spec_voLook.f k (strOfNums out ++ strOfNums [100]) [a, b, c, d + 1] [t0, t1, t2, t3] = some (sp out (pre 100 (so a b c (d + 1)) (W m a b c (d + 1) t0 t1 t2 t3))) := fun k hk h h' => by
      have hso : so a b c (d + 1) := by unfold so; omega
      rw [sp_pos _ _ _ _ hso, ← str_snoc]
      exact ih (by omega) a b c (d + 1) (out ++ [100]) hso (by omega) ha hb hc (by omega) (by omega) (by simp; omega) k hk
    generalize sp out (pre 97 (so (a + 1) b c d) (W m (a + 1) b c d t0 t1 t2 t3)) = S0 at *
    generalize sp out (pre 98 (so a (b + 1) c d) (W m a (b + 1) c d t0 t1 t2 t3)) = S1 at *
    generalize sp out (pre 99 (so a b (c + 1) d) (W m a b (c + 1) d t0 t1 t2 t3)) = S2 at *
    generalize sp out (pre 100 (so a b c (d + 1)) (W m a b c (d + 1) t0 t1 t2 t3)) = S3 at *
    clear ih
    rw [spec_voLook.f]
    obtain ⟨e0, q0, x0⟩ := L0 (k + 7) (F0 _ (by omega)) true []
    rw [show k + 9 = k + 7 + 2 from rfl, x0, show k + 7 + e0 = (k + 5 + e0) + 2 by omega]
    obtain ⟨e1, q1, x1⟩ := L1 (k + 5 + e0) (F1 _ (by omega)) (true && decide (a = t0)) ([] ++ S0)
    rw [x1, show k + 5 + e0 + e1 = (k + 3 + e0 + e1) + 2 by omega]
    obtain ⟨e2, q2, x2⟩ := L2 (k + 3 + e0 + e1) (F2 _ (by omega)) (true && decide (a = t0) && decide (b = t1)) ([] ++ S0 ++ S1)
    rw [x2, show k + 3 + e0 + e1 + e2 = (k + 1 + e0 + e1 + e2) + 2 by omega]
    obtain ⟨e3, q3, x3⟩ := L3 (k + 1 + e0 + e1 + e2) (F3 _ (by omega)) (true && decide (a = t0) && decide (b = t1) && decide (c = t2)) ([] ++ S0 ++ S1 ++ S2)
    have hd : (true && decide (a = t0) && decide (b = t1) && decide (c = t2) && decide (d = t3)) = false := by
      rw [Bool.eq_false_iff]
      intro h
      simp only [Bool.and_eq_true, decide_eq_true_eq] at h
      exact e ⟨h.1.1.1.2, h.1.1.2, h.1.2, h.2⟩
    rw [x3, show k + 1 + e0 + e1 + e2 + e3 = (k + e0 + e1 + e2 + e3) + 1 by omega, spec_voLook.l0, l4_, if_neg (by decide), hd, if_neg (by decide), List.nil_append, List.append_assoc, List.append_assoc]
end

theorem in_gen (a x : Int) : impl_in.f a 0 x = some (decide (0 ≤ a ∧ a ≤ x)) := by
  unfold impl_in.f
  by_cases h : 0 ≤ a
  · rw [if_pos h]; congr 1; rw [decide_eq_decide]; omega
  · rw [if_neg h, decide_eq_false (by omega)]
/-- The program gathers the words of all ranks. -/
theorem gather (a b c d : Int) (Z : List (List Int)) (hZ : Z.length ≤ 300) (h : ∀ i : Nat, i < Z.length → ∀ k, impl_tally_ofRank.f k a b c d (i : Int) = some (strOfNums (Z.getD i []), true)) :
    ∀ (r i : Nat), i + r = Z.length → ∀ k, r < k → impl_AllOrdered.l0 k (sp [] (Z.take i)) (Z.length : Int) (i : Int) a b c d = some (sp [] Z, true)
  | 0, i, e, k, hk => by
    obtain ⟨k, rfl⟩ : ∃ j, k = j + 1 := ⟨k - 1, by omega⟩
    rw [impl_AllOrdered.l0, if_neg (by omega), show i = Z.length by omega, List.take_length]
  | r + 1, i, e, k, hk => by
    obtain ⟨k, rfl⟩ : ∃ j, k = j + 1 := ⟨k - 1, by omega⟩
    have e1 : (sp [] (Z.take i)).length < 8796093022208 := by
      have : (sp [] (Z.take i)).length = (Z.take i).length := List.length_map ..
      rw [this, List.length_take]; omega
    have e2 : sp [] (Z.take i) ++ [strOfNums (Z.getD i [])] = sp [] (Z.take (i + 1)) := by
      have hi : i < Z.length := by omega
      have h1 : Z.take (i + 1) = Z.take i ++ [Z[i]] := by simp [List.take_append_getElem]
      rw [h1, sp_app, List.getD_eq_getElem?_getD, List.getElem?_eq_getElem hi]; rfl
    have e3 : wrap64 ((i : Int) + 1) = ((i + 1 : Nat) : Int) := by rw [w64 (by omega) (by omega)]; omega
    rw [impl_AllOrdered.l0, if_pos (by omega), h i (by omega), Option.bind_some]
    dsimp only
    rw [if_pos e1, e2, e3]
    exact gather a b c d Z hZ h r (i + 1) (by omega) k (by omega)
/-- Both tell the same of a result. -/
theorem bothR (a b c d : Int) (hR : isR a b c d = true) : ∃ (L : List ByteArray) (o : Bool), L.length ≤ 300 ∧ (∀ k, 1000 ≤ k → spec_AllOrdered.f k [a, b, c, d] = some (L, o)) ∧ (∀ k, 1000 ≤ k → impl_AllOrdered.f k [a, b, c, d] = some (L, o)) := by
  have hR' := hR
  unfold isR inB at hR'
  simp only [Bool.and_eq_true, decide_eq_true_eq] at hR'
  have hs : so a b c d := by unfold so; omega
  obtain ⟨n, hn⟩ : ∃ n : Nat, a + b + c + d = n := ⟨(a + b + c + d).toNat, by omega⟩
  have hg := g_eq a b c d (by omega) hs n (by omega) 0 0 0 0 18 (by omega) so0 (by omega) (by omega) (by omega) (by omega) (by omega) (by omega)
  have hA : A n 0 0 0 0 a b c d ≤ 4 ^ 16 := Nat.le_trans (A_le _ _ _ _ _ _ _ _ _) (Nat.pow_le_pow_right (by decide) (by omega))
  have hv : spec_voCount.f 400 [a, b, c, d] = some (A n 0 0 0 0 a b c d : Int) := by
    obtain ⟨A', rfl⟩ := Int.eq_ofNat_of_zero_le (show 0 ≤ a by omega)
    obtain ⟨B', rfl⟩ := Int.eq_ofNat_of_zero_le (show 0 ≤ b by omega)
    obtain ⟨C', rfl⟩ := Int.eq_ofNat_of_zero_le (show 0 ≤ c by omega)
    obtain ⟨D', rfl⟩ := Int.eq_ofNat_of_zero_le (show 0 ≤ d by omega)
    have h := voCount_eq A' B' C' D' (by omega) (by omega) (by omega) (by omega)
    obtain rfl : A' + B' + C' + D' = n := by omega
    exact h
  obtain ⟨x, x1, x2⟩ := cr_eq a b c d hR
  obtain rfl : x = (A n 0 0 0 0 a b c d : Int) := by rw [x2] at hv; exact Option.some.inj hv
  have hw : wrap64 ((A n 0 0 0 0 a b c d : Int) - 1) = (A n 0 0 0 0 a b c d : Int) - 1 := w64 (by omega) (by omega)
  have hvk : ∀ k, 400 ≤ k → spec_voCount.f k [a, b, c, d] = some (A n 0 0 0 0 a b c d : Int) := fun k hk => at_rounds (spec_voCount.mono _) hk hv
  have hok : ∀ k, 400 ≤ k → impl_tally_ordered.f k a b c d = some (A n 0 0 0 0 a b c d : Int) := fun k hk => at_rounds (impl_tally_ordered.mono a b c d) hk x1
  have hl := W_len a b c d n 0 0 0 0
  by_cases hc : (A n 0 0 0 0 a b c d : Int) > 300
  · refine ⟨[], false, by simp, fun k hk => ?_, fun k hk => ?_⟩
    · unfold spec_AllOrdered.f
      rw [voResult_eq _ _ (by omega), Option.bind_some, show isRes [a, b, c, d] = true from hR, if_pos rfl, hvk _ (by omega), Option.bind_some, if_pos hc]
    · obtain ⟨k, rfl⟩ : ∃ j, k = j + 1 := ⟨k - 1, by omega⟩
      unfold impl_AllOrdered.f
      rw [resultOf_eq _ _ (by omega), Option.bind_some, resT_of a b c d hR]
      dsimp only
      rw [if_pos rfl, hok _ (by omega), Option.bind_some, decide_eq_true hc, impl_AllOrdered.j0, if_pos rfl]
  · have hrk : ∀ i : Nat, i < (W n 0 0 0 0 a b c d).length → ∀ k, impl_tally_ofRank.f k a b c d (i : Int) = some (strOfNums ((W n 0 0 0 0 a b c d).getD i []), true) := fun i hi k => by
      unfold impl_tally_ofRank.f
      rw [hg, Option.bind_some, in_gen, Option.bind_some, hw, decide_eq_true (by omega), if_pos rfl]
      exact walkI a b c d hs (by omega) (by omega) (by omega) n (by omega) 0 0 0 0 i [] so0 (by omega) (by omega) (by omega) (by omega) (by omega) (by omega) (by omega) (by omega) (by simp; omega) 200 (by omega)
    have hspl : (sp [] (W n 0 0 0 0 a b c d)).length = (W n 0 0 0 0 a b c d).length := List.length_map ..
    refine ⟨sp [] (W n 0 0 0 0 a b c d), true, by omega, fun k hk => ?_, fun k hk => ?_⟩
    · unfold spec_AllOrdered.f
      rw [voResult_eq _ _ (by omega), Option.bind_some, show isRes [a, b, c, d] = true from hR, if_pos rfl, hvk _ (by omega), Option.bind_some, if_neg hc]
      rw [show (⟨#[]⟩ : ByteArray) = strOfNums [] from rfl, look_eq a b c d hs (by omega) (by omega) n (by omega) 0 0 0 0 [] so0 (by omega) (by omega) (by omega) (by omega) (by omega) (by omega) (by simp; omega) k (by omega), Option.bind_some, if_pos (by omega)]
    · obtain ⟨k, rfl⟩ : ∃ j, k = j + 1 := ⟨k - 1, by omega⟩
      unfold impl_AllOrdered.f
      rw [resultOf_eq _ _ (by omega), Option.bind_some, resT_of a b c d hR]
      dsimp only
      rw [if_pos rfl, hok _ (by omega), Option.bind_some, decide_eq_false hc, impl_AllOrdered.j0, if_neg (by decide), hok _ (by omega), Option.bind_some, ← hl]
      exact gather a b c d (W n 0 0 0 0 a b c d) (by omega) hrk (W n 0 0 0 0 a b c d).length 0 (by omega) k (by omega)
theorem both (l : List Int) : ∃ (L : List ByteArray) (o : Bool), L.length ≤ 300 ∧ (∀ k, 1000 ≤ k → spec_AllOrdered.f k l = some (L, o)) ∧ (∀ k, 1000 ≤ k → impl_AllOrdered.f k l = some (L, o)) := by
  by_cases hR : isRes l = true
  · have h4 : l.length = 4 := by
      by_cases h4 : l.length = 4
      · exact h4
      · rw [isRes_not l h4] at hR; exact absurd hR (by decide)
    obtain ⟨a, b, c, d, rfl⟩ := four l h4
    exact bothR a b c d hR
  · refine ⟨[], false, by simp, fun k hk => ?_, fun k hk => ?_⟩
    · unfold spec_AllOrdered.f
      rw [voResult_eq l _ (by omega), Option.bind_some, Bool.eq_false_iff.mpr hR, if_neg (by decide)]
    · obtain ⟨k, rfl⟩ : ∃ j, k = j + 1 := ⟨k - 1, by omega⟩
      unfold impl_AllOrdered.f
      rw [resultOf_eq l _ (by omega), Option.bind_some, resT_snd, Bool.eq_false_iff.mpr hR, if_neg (by decide), impl_AllOrdered.j0, if_pos rfl]
theorem FnExactAllOrdered : laws_FnExactAllOrdered.Pure := by
  intro l hl hs hw
  obtain ⟨L, o, hL, h1, h2⟩ := both l
  refine ⟨1050003, ?_⟩
  unfold laws_FnExactAllOrdered.f
  by_cases hbig : (l.length : Int) > 1048576
  · rw [if_pos hbig]
  · have ho : (o != o) = false := by cases o <;> rfl
    obtain ⟨xs, m1, m2⟩ := markI l 1 (by omega) (by omega) (by omega) 1050002 (by omega)
    obtain ⟨ys, n1, n2⟩ := markS L (by omega) 1050001 (by omega)
    rw [if_neg hbig, toI_eq l (by omega) _ (by omega)]
    simp only [Option.bind_some]
    rw [h1 _ (by omega)]
    simp only [Option.bind_some]
    rw [h2 _ (by omega)]
    simp only [Option.bind_some]
    rw [eqS_self L (by omega) _ (by omega)]
    simp only [Option.bind_some, if_true]
    rw [show (1050003 : Nat) = 1050002 + 1 from rfl, laws_FnExactAllOrdered.j0, ho, if_neg (by decide), toI_eq l (by omega) _ (by omega)]
    simp only [Option.bind_some]
    rw [eqI_self l (by omega) _ (by omega)]
    simp only [Option.bind_some, if_true]
    rw [m1]
    simp only [Option.bind_some]
    rw [if_neg (by omega), eqS_self L (by omega) _ (by omega)]
    simp only [Option.bind_some, if_true]
    rw [show (1050002 : Nat) = 1050001 + 1 from rfl, laws_FnExactAllOrdered.j1, if_neg (by decide), n1]
    simp only [Option.bind_some]
    rw [heldS ys L.length n2 (by omega) _ (by omega)]
    simp only [Option.bind_some]
    rw [if_neg (by omega), if_pos trivial, toI_eq l (by omega) _ (by omega)]
    simp only [Option.bind_some]
    rw [h2 _ (by omega)]
    simp only [Option.bind_some]
    rw [eqS_self L (by omega) _ (by omega)]
    simp only [Option.bind_some, if_true]
    rw [ho, show (1050001 : Nat) = 1050000 + 1 from rfl, laws_FnExactAllOrdered.j2, if_neg (by decide), heldS ys L.length n2 (by omega) _ (by omega)]
    simp only [Option.bind_some]
    rw [if_neg (by omega), if_pos trivial]

end Go.Proofs.Ytgpebahbeccniaa.PuqFnExactAllOrdered
namespace Go.Proofs.Ytgpebahbeccniaa.Pure
open Go.Proofs.Ytgpebahbeccniaa.QFnExactAllOrdered
theorem FnExactAllOrdered : laws_FnExactAllOrdered.Pure := Go.Proofs.Ytgpebahbeccniaa.PuqFnExactAllOrdered.FnExactAllOrdered
end Go.Proofs.Ytgpebahbeccniaa.Pure
