/- For every text: CountsOfVotes of the program and of the reference answer alike. -/
import Derived.Test.YtfjpejdlgmlmhaaDoorQFnExactCountsOfVotesx2
import Derived.Test.YtfjpejdlgmlmhaaDoorZpl
namespace Go.Proofs.YtfjpejdlgmlmhaaDoor.PuqFnExactCountsOfVotes
open Go.RowKit Go.Proofs.YtfjpejdlgmlmhaaDoor.QFnExactCountsOfVotes Go.Proofs.YtfjpejdlgmlmhaaDoorW.PrintWords Go.Proofs.YtfjpejdlgmlmhaaDoorW.PrintLast Go.Proofs.YtfjpejdlgmlmhaaDoorPl
set_option linter.unusedVariables false

/-- Is every byte one of a, b, c, d? -/
def isV (s : ByteArray) : Bool := s.data.toList.all fun b => decide (97 ≤ b.toNat ∧ b.toNat ≤ 100)

theorem isV_bt (s : ByteArray) : isV s = true ↔ ∀ i : Nat, i < s.size → 97 ≤ bt s (i : Int) ∧ bt s (i : Int) ≤ 100 := by
  unfold isV
  rw [List.all_eq_true]
  constructor
  · intro h i hi
    have := h (s[i]'hi) (by rw [show s[i]'hi = s.data.toList[i]'(by simpa using hi) from rfl]; exact List.getElem_mem _)
    unfold bt; rw [dif_pos (by simpa using hi)]
    simp only [decide_eq_true_eq] at this
    simp only [Int.toNat_natCast]
    omega
  · intro h b hb
    obtain ⟨i, hi, rfl⟩ := List.mem_iff_getElem.mp hb
    have hi' : i < s.size := by simpa using hi
    have h1 := h i hi'
    unfold bt at h1; rw [dif_pos (by simpa using hi')] at h1
    simp only [Int.toNat_natCast] at h1
    have h2 : s[i]'hi' = s.data.toList[i]'hi := rfl
    rw [h2] at h1
    simp only [decide_eq_true_eq]
    omega

theorem voGood_l (s : ByteArray) (hn : s.size ≤ 1048576) (d : Nat) : ∀ (k i : Nat), i + d = s.size → d < k → spec_voGood.l0 k s (i : Int) = some ((List.range' i d).all fun j => decide (97 ≤ bt s (j : Int) ∧ bt s (j : Int) ≤ 100)) := by
  induction d with
  | zero =>
    intro k i h1 h2
    obtain ⟨k, rfl⟩ : ∃ m, k = m + 1 := ⟨k - 1, by omega⟩
    simp only [spec_voGood.l0]
    rw [if_neg (by omega)]
    rfl
  | succ d ih =>
    intro k i h1 h2
    obtain ⟨k, rfl⟩ : ∃ m, k = m + 1 := ⟨k - 1, by omega⟩
    simp only [spec_voGood.l0]
    rw [if_pos (by omega), if_pos (by omega), w64 (by omega) (by omega), show ((i : Int) + 1) = ((i + 1 : Nat) : Int) by omega, ih k (i + 1) (by omega) (by omega), List.range'_succ, List.all_cons]
    by_cases h' : bt s (i : Int) < 97
    · rw [if_pos h', decide_eq_false (by omega), Bool.false_and]
    · rw [if_neg h']
      by_cases h : bt s (i : Int) > 100
      · rw [if_pos h, decide_eq_false (by omega), Bool.false_and]
      · rw [if_neg h, decide_eq_true (by omega), Bool.true_and]

theorem voGood_eq (s : ByteArray) (k : Nat) (hk : 17 < k) : spec_voGood.f k s = some (decide (s.size ≤ 16) && isV s) := by
  unfold spec_voGood.f
  by_cases h : s.size ≤ 16
  · rw [if_neg (by omega)]
    have := voGood_l s (by omega) s.size k 0 (by omega) (by omega)
    rw [show ((0 : Nat) : Int) = 0 from rfl] at this
    rw [this]
    congr 1
    rw [Bool.eq_iff_iff, List.all_eq_true]
    simp only [decide_eq_true_eq, Bool.and_eq_true]
    rw [isV_bt]
    exact ⟨fun H => ⟨h, fun i hi => H i (by rw [List.mem_range'_1]; omega)⟩, fun H i hi => H.2 i (by rw [List.mem_range'_1] at hi; omega)⟩
  · rw [if_pos (by omega)]
    simp [h]

theorem areVotes_eq (s : ByteArray) (hs : s.size ≤ 140737488351232) : impl_AreVotes.f s = some (decide (s.size ≤ 16) && isV s) := by
  unfold impl_AreVotes.f
  by_cases h : s.size ≤ 16
  · rw [if_pos (by omega)]
    unfold impl_isMade.f strings_Trim.f
    rw [if_pos (by omega), if_pos (by decide), if_pos (by decide)]
    simp only [Option.bind_some, Option.some.injEq]
    rw [trim_eq]
    simp only [h, decide_true, Bool.true_and]
    unfold isV
    congr 1
    funext b
    rw [Bool.eq_iff_iff]
    simp only [decide_eq_true_eq]
    have e : ∀ n : Fin 256, (([97, 98, 99, 100] : List UInt8).contains (UInt8.ofNat n.val) = true ↔ (97 ≤ n.val ∧ n.val ≤ 100)) := by decide +kernel
    have e' := e ⟨b.toNat, b.toNat_lt⟩
    rw [UInt8.ofNat_toNat] at e'
    exact e'
  · rw [if_neg (by omega)]
    simp [h]

/-- How many of the first i votes are for candidate c. -/
def cn (s : ByteArray) (c : Int) : Nat → Int
  | 0 => 0
  | i + 1 => cn s c i + (if bt s (i : Int) - 97 = c then 1 else 0)
theorem cn_bound (s : ByteArray) (c : Int) : ∀ i : Nat, 0 ≤ cn s c i ∧ cn s c i ≤ i
  | 0 => by simp [cn]
  | i + 1 => by have := cn_bound s c i; unfold cn; split <;> omega
theorem wcn (s : ByteArray) (c : Int) (i : Nat) (h : i ≤ 16) : wrap64 (cn s c i + 1) = cn s c i + 1 := by
  have hb := cn_bound s c i
  generalize cn s c i = x at hb ⊢
  exact w64 (by omega) (by omega)
theorem cn_congr (s t : ByteArray) (c : Int) : ∀ i : Nat, (∀ j : Nat, j < i → bt s (j : Int) = bt t (j : Int)) → cn s c i = cn t c i
  | 0, _ => rfl
  | i + 1, h => by unfold cn; rw [cn_congr s t c i (fun j hj => h j (by omega)), h i (by omega)]
theorem bt_extract (s : ByteArray) (m j : Nat) (hm : m ≤ s.size) (hj : j < m) : bt (s.extract 0 m) (j : Int) = bt s (j : Int) := by
  unfold bt
  have h1 : (s.extract 0 m).size = m := by rw [ByteArray.size_extract]; omega
  simp only [Int.toNat_natCast]
  rw [dif_pos (by omega), dif_pos (by omega)]
  congr 2
  rw [ByteArray.getElem_extract]
  congr 1
  omega
theorem size_pre (s : ByteArray) (m : Nat) (hm : m ≤ s.size) : (s.extract 0 m).size = m := by rw [ByteArray.size_extract]; omega

/-- Are the letters among the first ones? -/
def okV (s : ByteArray) : Prop := ∀ i : Nat, i < s.size → 97 ≤ bt s (i : Int) ∧ bt s (i : Int) ≤ 100
theorem okV_pre (s : ByteArray) (h : okV s) (m : Nat) (hm : m ≤ s.size) : okV (s.extract 0 m) := by
  intro i hi
  rw [size_pre s m hm] at hi
  rw [bt_extract s m i hm hi]; exact h i (by omega)

def ordv (s : ByteArray) (m : Nat) : Bool := decide (cn s 0 m ≥ cn s 1 m ∧ cn s 1 m ≥ cn s 2 m ∧ cn s 2 m ≥ cn s 3 m)

theorem tally_l (s : ByteArray) (hs : s.size ≤ 16) (hv : okV s) (d : Nat) : ∀ (k i : Nat), i + d = s.size → d < k → impl_tallyOf.l0 k s (s.size : Int) (i : Int) (cn s 0 i) (cn s 1 i) (cn s 2 i) (cn s 3 i) = some (cn s 0 s.size, cn s 1 s.size, cn s 2 s.size, cn s 3 s.size) := by
  induction d with
  | zero =>
    intro k i h1 h2
    obtain ⟨k, rfl⟩ : ∃ m, k = m + 1 := ⟨k - 1, by omega⟩
    obtain rfl : i = s.size := by omega
    simp only [impl_tallyOf.l0]
    rw [if_neg (by omega)]
  | succ d ih =>
    intro k i h1 h2
    obtain ⟨k, rfl⟩ : ∃ m, k = m + 1 := ⟨k - 1, by omega⟩
    have hb := hv i (by omega)
    have em : (bt s (i : Int) - 97) % 256 = bt s (i : Int) - 97 := by omega
    have ew : wrap64 ((i : Int) + 1) = ((i + 1 : Nat) : Int) := by rw [w64 (by omega) (by omega)]; omega
    have f := ih k (i + 1) (by omega) (by omega)
    have g0 := wcn s 0 i (by omega)
    have g1 := wcn s 1 i (by omega)
    have g2 := wcn s 2 i (by omega)
    have g3 := wcn s 3 i (by omega)
    simp only [impl_tallyOf.l0, em, ew, g0, g1, g2, g3]
    rw [if_pos (by omega), if_pos (by omega), if_pos (by omega), if_pos (by omega), if_pos (by omega)]
    simp only [cn] at f
    by_cases h0 : bt s (i : Int) - 97 = 0
    · rw [if_pos h0]; simp only [h0, if_true, show ((0 : Int) = 1) = False by simp, show ((0 : Int) = 2) = False by simp, show ((0 : Int) = 3) = False by simp, if_false, Int.add_zero] at f; exact f
    · rw [if_neg h0]
      by_cases h1 : bt s (i : Int) - 97 = 1
      · rw [if_pos h1]; simp only [h1, if_true, show ((1 : Int) = 0) = False by simp, show ((1 : Int) = 2) = False by simp, show ((1 : Int) = 3) = False by simp, if_false, Int.add_zero] at f; exact f
      · rw [if_neg h1]
        by_cases h2 : bt s (i : Int) - 97 = 2
        · rw [if_pos h2]; simp only [h2, if_true, show ((2 : Int) = 0) = False by simp, show ((2 : Int) = 1) = False by simp, show ((2 : Int) = 3) = False by simp, if_false, Int.add_zero] at f; exact f
        · have h3 : bt s (i : Int) - 97 = 3 := by omega
          rw [if_neg h2, if_pos h3]; simp only [h3, if_true, show ((3 : Int) = 0) = False by simp, show ((3 : Int) = 1) = False by simp, show ((3 : Int) = 2) = False by simp, if_false, Int.add_zero] at f; exact f

theorem tally_eq (s : ByteArray) (hs : s.size ≤ 16) (hv : okV s) (k : Nat) (hk : s.size < k) : impl_tallyOf.f k s = some (cn s 0 s.size, cn s 1 s.size, cn s 2 s.size, cn s 3 s.size) :=
  tally_l s hs hv s.size k 0 (by omega) hk

theorem counts_l (s : ByteArray) (hs : s.size ≤ 16) (hv : okV s) (d : Nat) : ∀ (k i : Nat), i + d = s.size → d < k → spec_voCounts.l0 k s [cn s 0 i, cn s 1 i, cn s 2 i, cn s 3 i] (i : Int) = some [cn s 0 s.size, cn s 1 s.size, cn s 2 s.size, cn s 3 s.size] := by
  induction d with
  | zero =>
    intro k i h1 h2
    obtain ⟨k, rfl⟩ : ∃ m, k = m + 1 := ⟨k - 1, by omega⟩
    obtain rfl : i = s.size := by omega
    simp only [spec_voCounts.l0]
    rw [if_neg (by omega)]
  | succ d ih =>
    intro k i h1 h2
    obtain ⟨k, rfl⟩ : ∃ m, k = m + 1 := ⟨k - 1, by omega⟩
    have hb := hv i (by omega)
    have em : (bt s (i : Int) - 97) % 256 = bt s (i : Int) - 97 := by omega
    have ew : wrap64 ((i : Int) + 1) = ((i + 1 : Nat) : Int) := by rw [w64 (by omega) (by omega)]; omega
    have f := ih k (i + 1) (by omega) (by omega)
    simp only [spec_voCounts.l0, em, ew, List.length_cons, List.length_nil]
    rw [if_pos (by omega), if_pos (by omega), if_pos (by omega), if_pos (by omega)]
    simp only [cn] at f
    by_cases h0 : bt s (i : Int) - 97 = 0
    · simp only [h0, if_true, show ((0 : Int) = 1) = False by simp, show ((0 : Int) = 2) = False by simp, show ((0 : Int) = 3) = False by simp, if_false, Int.add_zero] at f ⊢
      rw [show rd [cn s 0 i, cn s 1 i, cn s 2 i, cn s 3 i] 0 = cn s 0 i from rfl, wcn s 0 i (by omega)]; exact f
    · by_cases h1 : bt s (i : Int) - 97 = 1
      · simp only [h1, if_true, show ((1 : Int) = 0) = False by simp, show ((1 : Int) = 2) = False by simp, show ((1 : Int) = 3) = False by simp, if_false, Int.add_zero] at f ⊢
        rw [show rd [cn s 0 i, cn s 1 i, cn s 2 i, cn s 3 i] 1 = cn s 1 i from rfl, wcn s 1 i (by omega)]; exact f
      · by_cases h2 : bt s (i : Int) - 97 = 2
        · simp only [h2, if_true, show ((2 : Int) = 0) = False by simp, show ((2 : Int) = 1) = False by simp, show ((2 : Int) = 3) = False by simp, if_false, Int.add_zero] at f ⊢
          rw [show rd [cn s 0 i, cn s 1 i, cn s 2 i, cn s 3 i] 2 = cn s 2 i from rfl, wcn s 2 i (by omega)]; exact f
        · have h3 : bt s (i : Int) - 97 = 3 := by omega
          simp only [h3, if_true, show ((3 : Int) = 0) = False by simp, show ((3 : Int) = 1) = False by simp, show ((3 : Int) = 2) = False by simp, if_false, Int.add_zero] at f ⊢
          rw [show rd [cn s 0 i, cn s 1 i, cn s 2 i, cn s 3 i] 3 = cn s 3 i from rfl, wcn s 3 i (by omega)]; exact f

theorem counts_eq (s : ByteArray) (hs : s.size ≤ 16) (hv : okV s) (k : Nat) (hk : s.size < k) : spec_voCounts.f k s = some [cn s 0 s.size, cn s 1 s.size, cn s 2 s.size, cn s 3 s.size] := by
  unfold spec_voCounts.f
  rw [if_pos (by decide)]
  exact counts_l s hs hv s.size k 0 (by omega) hk

theorem eqI_self (l : List Int) (hl : l.length ≤ 1048577) (k : Nat) (hk : l.length < k) : laws_eqIntS.f k l l = some true := by
  unfold laws_eqIntS.f
  rw [if_pos rfl]
  exact (loop_range (fun k (_ : Unit) i => laws_eqIntS.l0 k l l i) l.length (fun _ _ => ()) (fun _ => true) (fun _ _ => True)
    (fun k i _ hi _ => by
      refine ⟨?_, trivial⟩
      have e3 : wrap64 ((i : Int) + 1) = ((i + 1 : Nat) : Int) := by rw [w64 (by omega) (by omega)]; omega
      simp only [laws_eqIntS.l0, e3, if_true]
      repeat rw [if_pos (by omega)])
    (fun k _ _ => by simp only [laws_eqIntS.l0]; rw [if_neg (by omega)]) k () trivial hk).1


/-- What the marks are. -/
def Marked (a : Int) (n : Nat) (xs : List Int) : Prop := xs.length = n ∧ ∀ j : Nat, j < n → rd xs (j : Int) = a + j

theorem markI (l : List Int) (a : Int) (hl : l.length ≤ 1048577) (ha : 0 ≤ a) (ha' : a ≤ 1000000000000) (k : Nat) (hk : l.length < k) : ∃ xs, laws_markIntS.f k l a = some (a + l.length, xs) ∧ Marked a l.length xs := by
  unfold laws_markIntS.f
  have := loop_range (fun k (st : List Int × Int) i => laws_markIntS.l0 k st.1 st.2 i) l.length (fun st i => (st.1.set i st.2, st.2 + 1)) (fun st => (st.2, st.1)) (fun i st => st.1.length = l.length ∧ st.2 = a + i ∧ ∀ j : Nat, j < i → rd st.1 (j : Int) = a + j)
    (fun k i st hi hI => by
      obtain ⟨xs, x⟩ := st
      obtain ⟨h1, h2, h3⟩ := hI
      simp only at h1 h2 h3
      refine ⟨?_, ?_, ?_, ?_⟩
      · have e3 : wrap64 ((i : Int) + 1) = ((i + 1 : Nat) : Int) := by rw [w64 (by omega) (by omega)]; omega
        have e4 : wrap64 (x + 1) = x + 1 := w64 (by omega) (by omega)
        simp only [laws_markIntS.l0, e3, e4, Int.toNat_natCast]
        repeat rw [if_pos (by omega)]
      · simpa using h1
      · simp only; omega
      · intro j hj
        simp only
        by_cases e : j = i
        · subst e
          rw [rd_nat _ _ (by rw [List.length_set]; omega), List.getElem_set_self]; omega
        · rw [rd_nat _ _ (by rw [List.length_set]; omega), List.getElem_set_ne (by omega), ← rd_nat _ _ (by omega)]
          exact h3 j (by omega))
    (fun k st hI => by simp only [laws_markIntS.l0]; rw [if_neg (by omega)]) k (l, a) ⟨rfl, by simp, fun j hj => by omega⟩ hk
  obtain ⟨h1, h2⟩ := this
  refine ⟨_, ?_, h2.1, h2.2.2⟩
  rw [show laws_markIntS.l0 k l a 0 = _ from h1, h2.2.1]

theorem heldI (xs : List Int) (a : Int) (n : Nat) (hm : Marked a n xs) (hn : n ≤ 1048577) (ha : 0 ≤ a) (ha' : a ≤ 1000000000000) (k : Nat) (hk : n < k) : laws_heldIntS.f k xs a = some (a + n) := by
  unfold laws_heldIntS.f
  obtain ⟨h1, h2⟩ := hm
  have := loop_range (fun k (st : Int) i => laws_heldIntS.l0 k xs st i) n (fun st _ => st + 1) id (fun i st => st = a + i)
    (fun k i st hi hI => by
      subst hI
      refine ⟨?_, by omega⟩
      have e3 : wrap64 ((i : Int) + 1) = ((i + 1 : Nat) : Int) := by rw [w64 (by omega) (by omega)]; omega
      have e4 : wrap64 (a + i + 1) = a + i + 1 := w64 (by omega) (by omega)
      simp only [laws_heldIntS.l0, e3, e4, h2 i hi, if_true]
      repeat rw [if_pos (by omega)])
    (fun k st hI => by simp only [laws_heldIntS.l0]; rw [if_neg (by omega)]; rfl) k a (by simp) hk
  rw [this.1]
  exact congrArg some this.2

theorem tail1 (k : Nat) (hk : 1050000 < k) (x5 : List Int) (n : Nat) (hm : Marked 1 n x5) (hn : n ≤ 1048577) : laws_FnExactCountsOfVotes.j1 (k + 1) x5 (1 + (n : Int)) false = some true := by
  simp only [laws_FnExactCountsOfVotes.j1]
  rw [if_neg (by decide), heldI x5 1 n hm hn (by omega) (by omega) k (by omega)]
  simp only [Option.bind_some]
  rw [if_neg (by omega)]
  first | rfl | simp

theorem tail0 (k : Nat) (hk : 1050000 < k) (x0 : ByteArray) (L : List Int) (b : Bool) (hL : L.length ≤ 1048577) (hi : ∀ k, 1050000 < k → impl_CountsOfVotes.f k x0 = some (L, b)) : laws_FnExactCountsOfVotes.j0 (k + 2) x0 L b L false = some true := by
  simp only [laws_FnExactCountsOfVotes.j0]
  rw [if_neg (by decide)]
  obtain ⟨xs, h1, h2⟩ := markI L 1 hL (by omega) (by omega) (k + 1) (by omega)
  rw [h1]
  simp only [Option.bind_some]
  rw [heldI xs 1 L.length h2 hL (by omega) (by omega) (k + 1) (by omega)]
  simp only [Option.bind_some]
  rw [if_neg (by omega)]
  simp only [if_true]
  rw [hi (k + 1) (by omega)]
  simp only [Option.bind_some]
  rw [eqI_self L hL (k + 1) (by omega)]
  simp only [Option.bind_some, if_true]
  rw [show (b != b) = false by cases b <;> rfl]
  exact tail1 k hk xs L.length h2 hL

theorem both (s : ByteArray) (hs : s.size ≤ 140737488351232) : ∃ (L : List Int) (b : Bool), L.length ≤ 4 ∧ (∀ k, 60 < k → spec_CountsOfVotes.f k s = some (L, b)) ∧ ∀ k, 60 < k → impl_CountsOfVotes.f k s = some (L, b) := by
  by_cases h : s.size ≤ 16 ∧ isV s = true
  · have hc : (decide (s.size ≤ 16) && isV s) = true := by simp [h]
    have hv : okV s := (isV_bt s).mp h.2
    refine ⟨[cn s 0 s.size, cn s 1 s.size, cn s 2 s.size, cn s 3 s.size], true, by simp, fun k hk => ?_, fun k hk => ?_⟩
    · unfold spec_CountsOfVotes.f
      rw [voGood_eq s k (by omega), hc]
      simp only [Option.bind_some, if_true]
      rw [counts_eq s h.1 hv k (by omega)]
      rfl
    · unfold impl_CountsOfVotes.f
      rw [areVotes_eq s hs, hc]
      simp only [Option.bind_some, if_true]
      rw [tally_eq s h.1 hv k (by omega)]
      rfl
  · have hc : (decide (s.size ≤ 16) && isV s) = false := by
      cases hh : (decide (s.size ≤ 16) && isV s) with
      | false => rfl
      | true => exact absurd (by simpa using hh) h
    refine ⟨[], false, by simp, fun k hk => ?_, fun k hk => ?_⟩
    · unfold spec_CountsOfVotes.f; rw [voGood_eq s k (by omega), hc]; simp
    · unfold impl_CountsOfVotes.f; rw [areVotes_eq s hs, hc]; simp
theorem FnExactCountsOfVotes : laws_FnExactCountsOfVotes.Pure := by
  intro s hs
  obtain ⟨L, b, hL, h1, h2⟩ := both s hs
  refine ⟨1050010, ?_⟩
  unfold laws_FnExactCountsOfVotes.f
  by_cases hbig : (s.size : Int) > 1048576
  · rw [if_pos hbig]
  · rw [if_neg hbig, h1 _ (by omega)]
    simp only [Option.bind_some]
    rw [h2 _ (by omega)]
    simp only [Option.bind_some]
    rw [eqI_self L (by omega) _ (by omega)]
    simp only [Option.bind_some, if_true]
    rw [show (b != b) = false by cases b <;> rfl]
    exact tail0 1050008 (by omega) s L b (by omega) (fun k hk => h2 k (by omega))

end Go.Proofs.YtfjpejdlgmlmhaaDoor.PuqFnExactCountsOfVotes
namespace Go.Proofs.YtfjpejdlgmlmhaaDoor.Pure
open Go.Proofs.YtfjpejdlgmlmhaaDoor.QFnExactCountsOfVotes
theorem FnExactCountsOfVotes : laws_FnExactCountsOfVotes.Pure := Go.Proofs.YtfjpejdlgmlmhaaDoor.PuqFnExactCountsOfVotes.FnExactCountsOfVotes
end Go.Proofs.YtfjpejdlgmlmhaaDoor.Pure
