/- For every list: HooksOf of the program and of the reference answer alike. -/
import Derived.Test.YtfjpejdlgmlmhaaQFnExactHooksOfx5
import Derived.Test.YtfjpejdlgmlmhaaZpl
namespace Go.Proofs.Ytfjpejdlgmlmhaa.PuqFnExactHooksOf
open Go.RowKit Go.Proofs.Ytfjpejdlgmlmhaa.QFnExactHooksOf Go.Proofs.YtfjpejdlgmlmhaaW.PrintWords Go.Proofs.YtfjpejdlgmlmhaaW.PrintLast Go.Proofs.YtfjpejdlgmlmhaaPl
set_option linter.unusedVariables false

theorem eqI_self (l : List Int) (hl : l.length ≤ 1048577) (k : Nat) (hk : l.length < k) : laws_eqIntS.f k l l = some true := by
  unfold laws_eqIntS.f
  rw [if_pos rfl]
  exact (loop_range (fun k (_ : Unit) i => laws_eqIntS.l0 k l l i) l.length (fun _ _ => ()) (fun _ => true) (fun _ _ => True)
    (fun k i _ hi _ => by
      refine ⟨?_, trivial⟩
      have e3 : wrap64 ((i : Int) + 1) = ((i + 1 : Nat) : Int) := by rw [w64 (by omega) (by omega)]; omega
      simp only [laws_eqIntS.l0, e3, if_true]
      repeat rw [if_pos (by omega)])
    (fun k _ _ => by simp only [laws_eqIntS.l0]; rw [if_neg (by omega)]) k () trivial hk).1


/-- What the marks are. -/
def Marked (a : Int) (n : Nat) (xs : List Int) : Prop := xs.length = n ∧ ∀ j : Nat, j < n → rd xs (j : Int) = a + j

theorem markI (l : List Int) (a : Int) (hl : l.length ≤ 1048577) (ha : 0 ≤ a) (ha' : a ≤ 1000000000000) (k : Nat) (hk : l.length < k) : ∃ xs, laws_markIntS.f k l a = some (a + l.length, xs) ∧ Marked a l.length xs := by
  unfold laws_markIntS.f
  have := loop_range (fun k (st : List Int × Int) i => laws_markIntS.l0 k st.1 st.2 i) l.length (fun st i => (st.1.set i st.2, st.2 + 1)) (fun st => (st.2, st.1)) (fun i st => st.1.length = l.length ∧ st.2 = a + i ∧ ∀ j : Nat, j < i → rd st.1 (j : Int) = a + j)
    (fun k i st hi hI => by
      obtain ⟨xs, x⟩ := st
      obtain ⟨h1, h2, h3⟩ := hI
      simp only at h1 h2 h3
      refine ⟨?_, ?_, ?_, ?_⟩
      · have e3 : wrap64 ((i : Int) + 1) = ((i + 1 : Nat) : Int) := by rw [w64 (by omega) (by omega)]; omega
        have e4 : wrap64 (x + 1) = x + 1 := w64 (by omega) (by omega)
        simp only [laws_markIntS.l0, e3, e4, Int.toNat_natCast]
        repeat rw [if_pos (by omega)]
      · simpa using h1
      · simp only; omega
      · intro j hj
        simp only
        by_cases e : j = i
        · subst e
          rw [rd_nat _ _ (by rw [List.length_set]; omega), List.getElem_set_self]; omega
        · rw [rd_nat _ _ (by rw [List.length_set]; omega), List.getElem_set_ne (by omega), ← rd_nat _ _ (by omega)]
          exact h3 j (by omega))
    (fun k st hI => by simp only [laws_markIntS.l0]; rw [if_neg (by omega)]) k (l, a) ⟨rfl, by simp, fun j hj => by omega⟩ hk
  obtain ⟨h1, h2⟩ := this
  refine ⟨_, ?_, h2.1, h2.2.2⟩
  rw [show laws_markIntS.l0 k l a 0 = _ from h1, h2.2.1]

theorem heldI (xs : List Int) (a : Int) (n : Nat) (hm : Marked a n xs) (hn : n ≤ 1048577) (ha : 0 ≤ a) (ha' : a ≤ 1000000000000) (k : Nat) (hk : n < k) : laws_heldIntS.f k xs a = some (a + n) := by
  unfold laws_heldIntS.f
  obtain ⟨h1, h2⟩ := hm
  have := loop_range (fun k (st : Int) i => laws_heldIntS.l0 k xs st i) n (fun st _ => st + 1) id (fun i st => st = a + i)
    (fun k i st hi hI => by
      subst hI
      refine ⟨?_, by omega⟩
      have e3 : wrap64 ((i : Int) + 1) = ((i + 1 : Nat) : Int) := by rw [w64 (by omega) (by omega)]; omega
      have e4 : wrap64 (a + i + 1) = a + i + 1 := w64 (by omega) (by omega)
      simp only [laws_heldIntS.l0, e3, e4, h2 i hi, if_true]
      repeat rw [if_pos (by omega)])
    (fun k st hI => by simp only [laws_heldIntS.l0]; rw [if_neg (by omega)]; rfl) k a (by simp) hk
  rw [this.1]
  exact congrArg some this.2

theorem rdL1_nat (xs : List (List Int)) (i : Nat) : rd_L1 xs (i : Int) = xs.getD i [] := by unfold rd_L1; rw [Int.toNat_natCast]

theorem getD_set_self (xs : List (List Int)) (i : Nat) (m : List Int) (h : i < xs.length) : (xs.set i m).getD i [] = m := by
  rw [List.getD_eq_getElem?_getD, List.getElem?_set_self h]; rfl
theorem getD_set_ne (xs : List (List Int)) (i j : Nat) (m : List Int) (h : i ≠ j) : (xs.set i m).getD j [] = xs.getD j [] := by
  rw [List.getD_eq_getElem?_getD, List.getElem?_set_ne h, ← List.getD_eq_getElem?_getD]
theorem eqSS_l (L : List (List Int)) (hL : L.length ≤ 1000) (hr : ∀ j : Nat, (L.getD j []).length ≤ 1000) (d : Nat) : ∀ (k i : Nat), i + d = L.length → d + 1001 < k → laws_eqIntSS.l0 k L L (i : Int) = some true := by
  induction d with
  | zero =>
    intro k i h1 h2
    obtain ⟨k, rfl⟩ : ∃ m, k = m + 1 := ⟨k - 1, by omega⟩
    simp only [laws_eqIntSS.l0]
    rw [if_neg (by omega)]
  | succ d ih =>
    intro k i h1 h2
    obtain ⟨k, rfl⟩ : ∃ m, k = m + 1 := ⟨k - 1, by omega⟩
    have e3 : wrap64 ((i : Int) + 1) = ((i + 1 : Nat) : Int) := by rw [w64 (by omega) (by omega)]; omega
    have := hr i
    simp only [laws_eqIntSS.l0, e3, rdL1_nat]
    rw [if_pos (by omega), if_pos (by omega), if_pos (by omega), eqI_self _ (by omega) k (by omega)]
    simp only [Option.bind_some, if_true]
    exact ih k (i + 1) (by omega) (by omega)
theorem eqSS_self (L : List (List Int)) (hL : L.length ≤ 1000) (hr : ∀ j : Nat, (L.getD j []).length ≤ 1000) (k : Nat) (hk : 3000 < k) : laws_eqIntSS.f k L L = some true := by
  unfold laws_eqIntSS.f
  rw [if_pos rfl]
  exact eqSS_l L hL hr L.length k 0 (by omega) (by omega)

/-- How many numbers stand in the rows before row i. -/
def pre (L : List (List Int)) : Nat → Nat
  | 0 => 0
  | i + 1 => pre L i + (L.getD i []).length
theorem pre_le (L : List (List Int)) (hr : ∀ j : Nat, (L.getD j []).length ≤ 1000) : ∀ i : Nat, pre L i ≤ 1000 * i
  | 0 => Nat.le_refl _
  | i + 1 => by have := pre_le L hr i; have := hr i; simp only [pre]; omega

theorem markSS_l (L : List (List Int)) (hL : L.length ≤ 1000) (hr : ∀ j : Nat, (L.getD j []).length ≤ 1000) (d : Nat) : ∀ (k i : Nat) (xs : List (List Int)), i + d = L.length → d + 1001 < k → xs.length = L.length → (∀ j : Nat, i ≤ j → xs.getD j [] = L.getD j []) →
    (∀ j : Nat, j < i → Marked (1 + (pre L j : Int)) (L.getD j []).length (xs.getD j [])) →
    ∃ ys, laws_markIntSS.l0 k xs (1 + (pre L i : Int)) (i : Int) = some (1 + (pre L L.length : Int), ys) ∧ ys.length = L.length ∧ ∀ j : Nat, j < L.length → Marked (1 + (pre L j : Int)) (L.getD j []).length (ys.getD j []) := by
  induction d with
  | zero =>
    intro k i xs h1 h2 h3 h4 h5
    obtain ⟨k, rfl⟩ : ∃ m, k = m + 1 := ⟨k - 1, by omega⟩
    obtain rfl : i = L.length := by omega
    simp only [laws_markIntSS.l0]
    rw [if_neg (by omega)]
    exact ⟨xs, rfl, h3, h5⟩
  | succ d ih =>
    intro k i xs h1 h2 h3 h4 h5
    obtain ⟨k, rfl⟩ : ∃ m, k = m + 1 := ⟨k - 1, by omega⟩
    have e3 : wrap64 ((i : Int) + 1) = ((i + 1 : Nat) : Int) := by rw [w64 (by omega) (by omega)]; omega
    have b1 := pre_le L hr i
    have b2 := hr i
    obtain ⟨ms, m1, m2⟩ := markI (L.getD i []) (1 + (pre L i : Int)) (by omega) (by omega) (by omega) k (by omega)
    simp only [laws_markIntSS.l0, e3, rdL1_nat, h4 i (Nat.le_refl _)]
    rw [if_pos (by omega), if_pos (by omega), m1]
    simp only [Option.bind_some, Int.toNat_natCast]
    have e5 : 1 + (pre L i : Int) + ((L.getD i []).length : Int) = 1 + (pre L (i + 1) : Int) := by simp only [pre]; omega
    rw [e5]
    refine ih k (i + 1) (xs.set i ms) (by omega) (by omega) (by rw [List.length_set]; exact h3) (fun j hj => ?_) (fun j hj => ?_)
    · rw [getD_set_ne _ _ _ _ (by omega)]
      exact h4 j (by omega)
    · by_cases e : j = i
      · subst e
        rw [getD_set_self _ _ _ (by omega)]
        exact m2
      · rw [getD_set_ne _ _ _ _ (by omega)]
        exact h5 j (by omega)
theorem markSS (L : List (List Int)) (hL : L.length ≤ 1000) (hr : ∀ j : Nat, (L.getD j []).length ≤ 1000) (k : Nat) (hk : 3000 < k) :
    ∃ ys, laws_markIntSS.f k L 1 = some (1 + (pre L L.length : Int), ys) ∧ ys.length = L.length ∧ ∀ j : Nat, j < L.length → Marked (1 + (pre L j : Int)) (L.getD j []).length (ys.getD j []) := by
  unfold laws_markIntSS.f
  exact markSS_l L hL hr L.length k 0 L (by omega) (by omega) rfl (fun _ _ => rfl) (fun j hj => by omega)

theorem heldSS_l (L ys : List (List Int)) (hL : L.length ≤ 1000) (hr : ∀ j : Nat, (L.getD j []).length ≤ 1000) (hy : ys.length = L.length) (hm : ∀ j : Nat, j < L.length → Marked (1 + (pre L j : Int)) (L.getD j []).length (ys.getD j [])) (d : Nat) :
    ∀ (k i : Nat), i + d = L.length → d + 1001 < k → laws_heldIntSS.l0 k ys (1 + (pre L i : Int)) (i : Int) = some (1 + (pre L L.length : Int)) := by
  induction d with
  | zero =>
    intro k i h1 h2
    obtain ⟨k, rfl⟩ : ∃ m, k = m + 1 := ⟨k - 1, by omega⟩
    obtain rfl : i = L.length := by omega
    simp only [laws_heldIntSS.l0]
    rw [if_neg (by omega)]
  | succ d ih =>
    intro k i h1 h2
    obtain ⟨k, rfl⟩ : ∃ m, k = m + 1 := ⟨k - 1, by omega⟩
    have e3 : wrap64 ((i : Int) + 1) = ((i + 1 : Nat) : Int) := by rw [w64 (by omega) (by omega)]; omega
    have b1 := pre_le L hr i
    have b2 := hr i
    simp only [laws_heldIntSS.l0, e3, rdL1_nat]
    rw [if_pos (by omega), if_pos (by omega), heldI _ _ _ (hm i (by omega)) (by omega) (by omega) (by omega) k (by omega)]
    simp only [Option.bind_some]
    rw [if_neg (by omega)]
    have e5 : 1 + (pre L i : Int) + ((L.getD i []).length : Int) = 1 + (pre L (i + 1) : Int) := by simp only [pre]; omega
    rw [e5]
    exact ih k (i + 1) (by omega) (by omega)
theorem heldSS (L ys : List (List Int)) (hL : L.length ≤ 1000) (hr : ∀ j : Nat, (L.getD j []).length ≤ 1000) (hy : ys.length = L.length) (hm : ∀ j : Nat, j < L.length → Marked (1 + (pre L j : Int)) (L.getD j []).length (ys.getD j [])) (k : Nat) (hk : 3000 < k) :
    laws_heldIntSS.f k ys 1 = some (1 + (pre L L.length : Int)) := by
  unfold laws_heldIntSS.f
  exact heldSS_l L ys hL hr hy hm L.length k 0 (by omega) (by omega)

theorem falls_eq (a b c d : Int) (k : Nat) (hk : 5 < k) : spec_voFalls.f k [a, b, c, d] = some (decide (a ≥ b ∧ b ≥ c ∧ c ≥ d)) := by
  obtain ⟨k, rfl⟩ : ∃ m, k = m + 4 := ⟨k - 4, by omega⟩
  unfold spec_voFalls.f
  have w0 : wrap64 (1 - 1) = 0 := by rw [w64 (by omega) (by omega)]; rfl
  have w1 : wrap64 (2 - 1) = 1 := by rw [w64 (by omega) (by omega)]; rfl
  have w2 : wrap64 (3 - 1) = 2 := by rw [w64 (by omega) (by omega)]; rfl
  have v1 : wrap64 (1 + 1) = 2 := by rw [w64 (by omega) (by omega)]; rfl
  have v2 : wrap64 (2 + 1) = 3 := by rw [w64 (by omega) (by omega)]; rfl
  have v3 : wrap64 (3 + 1) = 4 := by rw [w64 (by omega) (by omega)]; rfl
  have r0 : rd [a, b, c, d] 0 = a := rfl
  have r1 : rd [a, b, c, d] 1 = b := rfl
  have r2 : rd [a, b, c, d] 2 = c := rfl
  have r3 : rd [a, b, c, d] 3 = d := rfl
  have l4 : (([a, b, c, d] : List Int).length : Int) = 4 := rfl
  simp only [spec_voFalls.l0, l4, w0, w1, w2, v1, v2, v3, r0, r1, r2, r3]
  simp only [show ((1 : Int) < 4) = True by simp, show ((2 : Int) < 4) = True by simp, show ((3 : Int) < 4) = True by simp, show ((0 : Int) < 4) = True by simp, show ((4 : Int) < 4) = False by simp, show ((0 : Int) ≤ 0) = True by simp, show ((0 : Int) ≤ 1) = True by simp, show ((0 : Int) ≤ 2) = True by simp, show ((0 : Int) ≤ 3) = True by simp, if_true, if_false]
  by_cases h1 : a < b
  · rw [if_pos h1, decide_eq_false (by omega)]
  · rw [if_neg h1]
    by_cases h2 : b < c
    · rw [if_pos h2, decide_eq_false (by omega)]
    · rw [if_neg h2]
      by_cases h3 : c < d
      · rw [if_pos h3, decide_eq_false (by omega)]
      · rw [if_neg h3, decide_eq_true (by omega)]

theorem ordered_eq (a b c d : Int) : impl_tally_isOrdered.f a b c d = some (decide (a ≥ b ∧ b ≥ c ∧ c ≥ d)) := by
  unfold impl_tally_isOrdered.f
  by_cases h1 : a ≥ b
  · rw [if_pos h1]
    by_cases h2 : b ≥ c
    · rw [if_pos h2]; congr 1; rw [decide_eq_decide]; omega
    · rw [if_neg h2, decide_eq_false (by omega)]
  · rw [if_neg h1, decide_eq_false (by omega)]


theorem toI_eq (l : List Int) (hl : l.length ≤ 1048577) (k : Nat) (hk : l.length < k) : laws_toIntS.f k l = some l := by
  unfold laws_toIntS.f
  rw [if_pos (by omega), if_pos (by omega)]
  have := loop_range (fun k (xs : List Int) i => laws_toIntS.l0 k l xs i) l.length (fun xs i => xs.set i (rd l (i : Int))) id (fun i xs => xs.length = l.length ∧ ∀ j : Nat, j < i → rd xs (j : Int) = rd l (j : Int))
    (fun k i xs hi hI => by
      obtain ⟨h1, h2⟩ := hI
      refine ⟨?_, ?_, ?_⟩
      · have e3 : wrap64 ((i : Int) + 1) = ((i + 1 : Nat) : Int) := by rw [w64 (by omega) (by omega)]; omega
        simp only [laws_toIntS.l0, e3, Int.toNat_natCast]
        repeat rw [if_pos (by omega)]
      · simpa using h1
      · intro j hj
        by_cases e : j = i
        · subst e
          rw [rd_nat _ _ (by rw [List.length_set]; omega), List.getElem_set_self]
        · rw [rd_nat _ _ (by rw [List.length_set]; omega), List.getElem_set_ne (by omega), ← rd_nat _ _ (by omega)]
          exact h2 j (by omega))
    (fun k xs hI => by simp only [laws_toIntS.l0]; rw [if_neg (by omega)]; rfl) k (List.replicate l.length 0) ⟨by simp, fun j hj => by omega⟩ hk
  rw [show ((l.length : Int) : Int).toNat = l.length from Int.toNat_natCast _]
  obtain ⟨h1, h2, h3⟩ := this
  rw [show laws_toIntS.l0 k l (List.replicate l.length 0) 0 = _ from h1, id]
  congr 1
  refine List.ext_getElem h2 fun j ha hb => ?_
  have := h3 j hb
  rw [rd_nat _ _ hb, rd_nat _ _ ha] at this
  exact this

/-- In the range of a result's numbers. -/
def inB (x : Int) : Bool := decide (0 ≤ x ∧ x ≤ 16)
def isR (a b c d : Int) : Bool := (inB a && inB b && inB c && inB d) && (decide (a ≥ b ∧ b ≥ c ∧ c ≥ d) && decide (a + b + c + d ≤ 16))
def isRes : List Int → Bool
  | [a, b, c, d] => isR a b c d
  | _ => false
def resT : List Int → Int × Int × Int × Int × Bool
  | [a, b, c, d] => if (inB a && inB b && inB c && inB d) = true then (a, b, c, d, isR a b c d) else (0, 0, 0, 0, false)
  | _ => (0, 0, 0, 0, false)
theorem four (l : List Int) (h : l.length = 4) : ∃ a b c d, l = [a, b, c, d] := by
  match l, h with
  | [a, b, c, d], _ => exact ⟨a, b, c, d, rfl⟩
theorem resT_not (l : List Int) (h : ¬ l.length = 4) : resT l = (0, 0, 0, 0, false) := by
  match l, h with
  | [], _ => rfl
  | [_], _ => rfl
  | [_, _], _ => rfl
  | [_, _, _], _ => rfl
  | [_, _, _, _], h => exact absurd rfl h
  | _ :: _ :: _ :: _ :: _ :: _, _ => rfl
theorem isRes_not (l : List Int) (h : ¬ l.length = 4) : isRes l = false := by
  match l, h with
  | [], _ => rfl
  | [_], _ => rfl
  | [_, _], _ => rfl
  | [_, _, _], _ => rfl
  | [_, _, _, _], h => exact absurd rfl h
  | _ :: _ :: _ :: _ :: _ :: _, _ => rfl
theorem resT_snd (l : List Int) : (resT l).2.2.2.2 = isRes l := by
  by_cases h : l.length = 4
  · obtain ⟨a, b, c, d, rfl⟩ := four l h
    simp only [resT, isRes]
    by_cases h1 : (inB a && inB b && inB c && inB d) = true
    · rw [if_pos h1]
    · rw [if_neg h1]; unfold isR; rw [Bool.eq_false_iff.mpr h1]; rfl
  · rw [resT_not l h, isRes_not l h]

theorem l1In_eq (x : Int) : spec_l1In.f x 0 16 = some (inB x) := by
  unfold spec_l1In.f inB
  by_cases h : x ≥ 0
  · rw [if_pos h]; congr 1; rw [decide_eq_decide]; omega
  · rw [if_neg h, decide_eq_false (by omega)]
theorem res1_eq (x : Int) : impl_resultOf_1.f x = !inB x := by
  unfold impl_resultOf_1.f inB
  rw [Bool.decide_and]

section
variable (a b c d : Int)
theorem v1_ : wrap64 ((0 : Int) + 1) = 1 := by rw [w64 (by omega) (by omega)]; rfl
theorem v2_ : wrap64 ((1 : Int) + 1) = 2 := by rw [w64 (by omega) (by omega)]; rfl
theorem v3_ : wrap64 ((2 : Int) + 1) = 3 := by rw [w64 (by omega) (by omega)]; rfl
theorem v4_ : wrap64 ((3 : Int) + 1) = 4 := by rw [w64 (by omega) (by omega)]; rfl
theorem r0_ : rd [a, b, c, d] 0 = a := rfl
theorem r1_ : rd [a, b, c, d] 1 = b := rfl
theorem r2_ : rd [a, b, c, d] 2 = c := rfl
theorem r3_ : rd [a, b, c, d] 3 = d := rfl
theorem l4_ : (([a, b, c, d] : List Int).length : Int) = 4 := rfl
end
theorem c04 : ((0 : Int) < 4) = True := by simp
theorem c14 : ((1 : Int) < 4) = True := by simp
theorem c24 : ((2 : Int) < 4) = True := by simp
theorem c34 : ((3 : Int) < 4) = True := by simp
theorem c44 : ((4 : Int) < 4) = False := by simp
theorem c00 : ((0 : Int) ≤ 0) = True := by simp
theorem c01 : ((0 : Int) ≤ 1) = True := by simp
theorem c02 : ((0 : Int) ≤ 2) = True := by simp
theorem c03 : ((0 : Int) ≤ 3) = True := by simp

theorem l1All_eq (a b c d : Int) (k : Nat) (hk : 5 < k) : spec_l1All.f k [a, b, c, d] 0 16 = some (inB a && inB b && inB c && inB d) := by
  obtain ⟨k, rfl⟩ : ∃ m, k = m + 5 := ⟨k - 5, by omega⟩
  unfold spec_l1All.f
  simp only [spec_l1All.l0, l4_, v1_, v2_, v3_, v4_, r0_, r1_, r2_, r3_, c04, c14, c24, c34, c44, c00, c01, c02, c03, if_true, if_false, l1In_eq, Option.bind_some]
  cases inB a <;> cases inB b <;> cases inB c <;> cases inB d <;> rfl

theorem cont_eq (a b c d : Int) (k : Nat) (hk : 5 < k) : slices_ContainsFunc_int_int.f k [a, b, c, d] impl_resultOf_1.o = some (!(inB a && inB b && inB c && inB d)) := by
  obtain ⟨k, rfl⟩ : ∃ m, k = m + 5 := ⟨k - 5, by omega⟩
  unfold slices_ContainsFunc_int_int.f slices_IndexFunc_int_int.f
  simp only [slices_IndexFunc_int_int.l0, l4_, v1_, v2_, v3_, v4_, r0_, r1_, r2_, r3_, c04, c14, c24, c34, c44, c00, c01, c02, c03, if_true, if_false, res1_eq]
  cases inB a <;> cases inB b <;> cases inB c <;> cases inB d <;> rfl

theorem sum_eq (a b c d : Int) (h : (inB a && inB b && inB c && inB d) = true) : impl_tally_sum.f a b c d = some (a + b + c + d) := by
  unfold inB at h
  simp only [Bool.and_eq_true, decide_eq_true_eq] at h
  unfold impl_tally_sum.f
  rw [w64 (x := a + b) (by omega) (by omega), w64 (x := a + b + c) (by omega) (by omega), w64 (by omega) (by omega)]

theorem resultOf_eq (l : List Int) (k : Nat) (hk : 20 < k) : impl_resultOf.f k l = some (resT l) := by
  obtain ⟨k, rfl⟩ : ∃ m, k = m + 10 := ⟨k - 10, by omega⟩
  unfold impl_resultOf.f
  by_cases h : l.length = 4
  · obtain ⟨a, b, c, d, rfl⟩ := four l h
    rw [if_pos (l4_ a b c d), cont_eq a b c d _ (by omega), Option.bind_some]
    simp only [impl_resultOf.j0, resT, l4_, r0_, r1_, r2_, r3_]
    by_cases h1 : (inB a && inB b && inB c && inB d) = true
    · rw [if_pos h1, h1, if_neg (by decide), if_pos (by omega), ordered_eq, Option.bind_some, sum_eq a b c d h1]
      unfold isR
      rw [h1]
      by_cases h2 : a ≥ b ∧ b ≥ c ∧ c ≥ d
      · rw [decide_eq_true h2, if_pos rfl, Option.bind_some]; rfl
      · rw [decide_eq_false h2, if_neg (by decide)]; rfl
    · rw [if_neg h1, Bool.eq_false_iff.mpr h1]; rfl
  · rw [if_neg (by omega), resT_not l h]; rfl

theorem voResult_eq (l : List Int) (k : Nat) (hk : 20 < k) : spec_voResult.f k l = some (isRes l) := by
  obtain ⟨k, rfl⟩ : ∃ m, k = m + 10 := ⟨k - 10, by omega⟩
  unfold spec_voResult.f
  by_cases h : l.length = 4
  · obtain ⟨a, b, c, d, rfl⟩ := four l h
    rw [if_pos (l4_ a b c d), l1All_eq a b c d _ (by omega), Option.bind_some]
    show _ = some ((inB a && inB b && inB c && inB d) && (decide (a ≥ b ∧ b ≥ c ∧ c ≥ d) && decide (a + b + c + d ≤ 16)))
    by_cases h1 : (inB a && inB b && inB c && inB d) = true
    · rw [h1, if_pos rfl, falls_eq a b c d _ (by omega), Option.bind_some]
      by_cases h2 : a ≥ b ∧ b ≥ c ∧ c ≥ d
      · rw [decide_eq_true h2]
        have h1' := h1
        unfold inB at h1'
        simp only [Bool.and_eq_true, decide_eq_true_eq] at h1'
        simp only [spec_voResult.j0, Bool.not_true, Bool.false_eq_true, if_false, spec_voResult.l0, l4_, v1_, v2_, v3_, v4_, r0_, r1_, r2_, r3_, c04, c14, c24, c34, c44, c00, c01, c02, c03, if_true]
        rw [w64 (x := 0 + a) (by omega) (by omega), w64 (x := 0 + a + b) (by omega) (by omega), w64 (x := 0 + a + b + c) (by omega) (by omega), w64 (by omega) (by omega), Bool.true_and, Bool.true_and]
        congr 1; rw [decide_eq_decide]; omega
      · rw [decide_eq_false h2]; simp [spec_voResult.j0]
    · rw [Bool.eq_false_iff.mpr h1]; simp [spec_voResult.j0]
  · rw [if_neg (by omega), isRes_not l h]; simp [spec_voResult.j0]

theorem resT_of (a b c d : Int) (h : isR a b c d = true) : resT [a, b, c, d] = (a, b, c, d, true) := by
  have h1 : (inB a && inB b && inB c && inB d) = true := by unfold isR at h; rw [Bool.and_eq_true] at h; exact h.1
  simp only [resT]
  rw [if_pos h1, h]

theorem up {α : Type} (F : Nat → Option α) (hm : ∀ k, LeO (F k) (F (k + 1))) {k0 : Nat} {r : α} (h : F k0 = some r) : ∀ d, F (k0 + d) = some r
  | 0 => h
  | d + 1 => hm _ _ (up F hm h d)
theorem up' {α : Type} (F : Nat → Option α) (hm : ∀ k, LeO (F k) (F (k + 1))) {k0 : Nat} {r : α} (h : F k0 = some r) (k : Nat) (hk : k0 ≤ k) : F k = some r := by
  obtain ⟨d, rfl⟩ : ∃ d, k = k0 + d := ⟨k - k0, by omega⟩
  exact up F hm h d

theorem tail2 (k : Nat) (hk : 1050000 < k) (L ys : List (List Int)) (hL : L.length ≤ 1000) (hr : ∀ j : Nat, (L.getD j []).length ≤ 1000) (hy : ys.length = L.length) (hm : ∀ j : Nat, j < L.length → Marked (1 + (pre L j : Int)) (L.getD j []).length (ys.getD j [])) : laws_FnExactHooksOf.j2 (k + 1) ys (1 + (pre L L.length : Int)) false = some true := by
  simp only [laws_FnExactHooksOf.j2]
  rw [if_neg (by decide), heldSS L ys hL hr hy hm k (by omega)]
  simp only [Option.bind_some]
  rw [if_neg (by omega)]
  first | rfl | simp

theorem tail1 (k : Nat) (hk : 1050000 < k) (x0 : List Int) (hx : x0.length ≤ 1048577) (L : List (List Int)) (b : Bool) (hL : L.length ≤ 1000) (hr : ∀ j : Nat, (L.getD j []).length ≤ 1000) (hi : ∀ k, 1050000 < k → impl_HooksOf.f k x0 = some (L, b)) : laws_FnExactHooksOf.j1 (k + 2) x0 L b L false = some true := by
  simp only [laws_FnExactHooksOf.j1]
  rw [if_neg (by decide)]
  obtain ⟨ys, h1, h2, h3⟩ := markSS L hL hr (k + 1) (by omega)
  rw [h1]
  simp only [Option.bind_some]
  rw [heldSS L ys hL hr h2 h3 (k + 1) (by omega)]
  simp only [Option.bind_some]
  rw [if_neg (by omega)]
  simp only [if_true]
  rw [toI_eq x0 hx (k + 1) (by omega)]
  simp only [Option.bind_some]
  rw [hi (k + 1) (by omega)]
  simp only [Option.bind_some]
  rw [eqSS_self L hL hr (k + 1) (by omega)]
  simp only [Option.bind_some, if_true]
  rw [show (b != b) = false by cases b <;> rfl]
  exact tail2 k hk L ys hL hr h2 h3

theorem tail0 (k : Nat) (hk : 1050000 < k) (x0 : List Int) (hx : x0.length ≤ 1048577) (L : List (List Int)) (b : Bool) (hL : L.length ≤ 1000) (hr : ∀ j : Nat, (L.getD j []).length ≤ 1000) (hi : ∀ k, 1050000 < k → impl_HooksOf.f k x0 = some (L, b)) : laws_FnExactHooksOf.j0 (k + 3) x0 L b x0 L b false = some true := by
  simp only [laws_FnExactHooksOf.j0]
  rw [if_neg (by decide), toI_eq x0 hx (k + 2) (by omega)]
  simp only [Option.bind_some]
  rw [eqI_self x0 hx (k + 2) (by omega)]
  simp only [Option.bind_some, if_true]
  obtain ⟨xs, h1, h2⟩ := markI x0 1 hx (by omega) (by omega) (k + 2) (by omega)
  rw [h1]
  simp only [Option.bind_some]
  rw [if_neg (by omega), eqSS_self L hL hr (k + 2) (by omega)]
  simp only [Option.bind_some, if_true]
  rw [show (b != b) = false by cases b <;> rfl]
  exact tail1 k hk x0 hx L b hL hr hi

def okHO (a b c d : Nat) : Bool := !(Nat.ble (a + b + c + d) 16) || (match impl_tally_hooks.f 400 (a : Int) (b : Int) (c : Int) (d : Int), spec_voHooks.f 400 [(a : Int), (b : Int), (c : Int), (d : Int)] with
  | some x, some y => decide (x = y) && (decide (x.length ≤ 4) && x.all fun r => decide (r.length ≤ 16))
  | _, _ => false)
def chkHO : Bool := (List.range 17).all fun a => (List.range (a + 1)).all fun b => (List.range (b + 1)).all fun c => (List.range (c + 1)).all fun d => okHO a b c d
theorem chkHO_true : chkHO = true := by kernel_rfl
theorem okHO_of (a b c d : Nat) (h1 : a ≤ 16) (h2 : b ≤ a) (h3 : c ≤ b) (h4 : d ≤ c) : okHO a b c d = true := by
  have h := chkHO_true
  unfold chkHO at h
  rw [List.all_eq_true] at h
  have h := h a (List.mem_range.mpr (by omega))
  rw [List.all_eq_true] at h
  have h := h b (List.mem_range.mpr (by omega))
  rw [List.all_eq_true] at h
  have h := h c (List.mem_range.mpr (by omega))
  rw [List.all_eq_true] at h
  exact h d (List.mem_range.mpr (by omega))
theorem getD_len (x : List (List Int)) (h : (x.all fun r => decide (r.length ≤ 16)) = true) (j : Nat) : (x.getD j []).length ≤ 16 := by
  rw [List.getD_eq_getElem?_getD]
  cases e : x[j]? with
  | none => simp
  | some r =>
    rw [List.all_eq_true] at h
    have := h r (List.mem_of_getElem? e)
    simpa using this
theorem ho_eq (a b c d : Int) (h : isR a b c d = true) : ∃ x, x.length ≤ 4 ∧ (∀ j : Nat, (x.getD j []).length ≤ 16) ∧ impl_tally_hooks.f 400 a b c d = some x ∧ spec_voHooks.f 400 [a, b, c, d] = some x := by
  unfold isR inB at h
  simp only [Bool.and_eq_true, decide_eq_true_eq] at h
  obtain ⟨A, rfl⟩ := Int.eq_ofNat_of_zero_le (show 0 ≤ a by omega)
  obtain ⟨B, rfl⟩ := Int.eq_ofNat_of_zero_le (show 0 ≤ b by omega)
  obtain ⟨C, rfl⟩ := Int.eq_ofNat_of_zero_le (show 0 ≤ c by omega)
  obtain ⟨D, rfl⟩ := Int.eq_ofNat_of_zero_le (show 0 ≤ d by omega)
  have h1 := okHO_of A B C D (by omega) (by omega) (by omega) (by omega)
  unfold okHO at h1
  rw [show Nat.ble (A + B + C + D) 16 = true from Nat.ble_eq_true_of_le (by omega), Bool.not_true, Bool.false_or] at h1
  generalize impl_tally_hooks.f 400 (A : Int) (B : Int) (C : Int) (D : Int) = X at h1 ⊢
  generalize spec_voHooks.f 400 [(A : Int), (B : Int), (C : Int), (D : Int)] = Y at h1 ⊢
  match X, Y, h1 with
  | some x, some y, h1 =>
    rw [Bool.and_eq_true, Bool.and_eq_true] at h1
    exact ⟨x, of_decide_eq_true h1.2.1, getD_len x h1.2.2, rfl, by rw [of_decide_eq_true h1.1]⟩
theorem both (l : List Int) : ∃ (L : List (List Int)) (b : Bool), L.length ≤ 1000 ∧ (∀ j : Nat, (L.getD j []).length ≤ 1000) ∧ (∀ k, 500 < k → spec_HooksOf.f k l = some (L, b)) ∧ ∀ k, 500 < k → impl_HooksOf.f k l = some (L, b) := by
  by_cases hR : isRes l = true
  · have h4 : l.length = 4 := by
      by_cases h4 : l.length = 4
      · exact h4
      · rw [isRes_not l h4] at hR; exact absurd hR (by decide)
    obtain ⟨a, b, c, d, rfl⟩ := four l h4
    have hR' : isR a b c d = true := hR
    obtain ⟨x, hx, hr, e1, e2⟩ := ho_eq a b c d hR'
    refine ⟨x, true, by omega, fun j => by have := hr j; omega, fun k hk => ?_, fun k hk => ?_⟩
    · unfold spec_HooksOf.f
      rw [voResult_eq _ _ (by omega), hR]
      simp only [Option.bind_some, if_true]
      rw [up' (fun k => spec_voHooks.f k [a, b, c, d]) (fun k => spec_voHooks.mono _ k) e2 k (by omega)]
      rfl
    · unfold impl_HooksOf.f
      rw [resultOf_eq _ _ (by omega), resT_of a b c d hR']
      simp only [Option.bind_some, if_true]
      rw [up' (fun k => impl_tally_hooks.f k a b c d) (fun k => impl_tally_hooks.mono _ _ _ _ k) e1 k (by omega)]
      rfl
  · refine ⟨[], false, by simp, by simp, fun k hk => ?_, fun k hk => ?_⟩
    · unfold spec_HooksOf.f
      rw [voResult_eq _ _ (by omega), Bool.eq_false_iff.mpr hR]
      simp
    · unfold impl_HooksOf.f
      rw [resultOf_eq _ _ (by omega)]
      simp only [Option.bind_some]
      rw [resT_snd, Bool.eq_false_iff.mpr hR]
      simp
theorem FnExactHooksOf : laws_FnExactHooksOf.Pure := by
  intro l hl hs hw
  obtain ⟨L, b, hL, hr, h1, h2⟩ := both l
  refine ⟨1050010, ?_⟩
  unfold laws_FnExactHooksOf.f
  by_cases hb : (l.length : Int) > 1048576
  · rw [if_pos hb]
  · rw [if_neg hb, toI_eq l (by omega) _ (by omega)]
    simp only [Option.bind_some]
    rw [h1 _ (by omega), h2 _ (by omega)]
    simp only [Option.bind_some]
    rw [eqSS_self L hL hr _ (by omega)]
    simp only [Option.bind_some, if_true]
    rw [show (b != b) = false by cases b <;> rfl]
    exact tail0 1050007 (by omega) l (by omega) L b hL hr (fun k hk => h2 k (by omega))

end Go.Proofs.Ytfjpejdlgmlmhaa.PuqFnExactHooksOf
namespace Go.Proofs.Ytfjpejdlgmlmhaa.Pure
open Go.Proofs.Ytfjpejdlgmlmhaa.QFnExactHooksOf
theorem FnExactHooksOf : laws_FnExactHooksOf.Pure := Go.Proofs.Ytfjpejdlgmlmhaa.PuqFnExactHooksOf.FnExactHooksOf
end Go.Proofs.Ytfjpejdlgmlmhaa.Pure
