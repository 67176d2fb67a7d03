/- For every list of rows: VotesOfTable of the program and of the reference answer alike. -/
import Derived.Test.YtfjpejdlgmlmhaaDoorQFnExactVotesOfTablex4
import Derived.Test.YtfjpejdlgmlmhaaDoorZpl
namespace Go.Proofs.YtfjpejdlgmlmhaaDoor.PuqFnExactVotesOfTable
open Go.RowKit Go.Proofs.YtfjpejdlgmlmhaaDoor.QFnExactVotesOfTable Go.Proofs.YtfjpejdlgmlmhaaDoorW.PrintWords Go.Proofs.YtfjpejdlgmlmhaaDoorW.PrintLast Go.Proofs.YtfjpejdlgmlmhaaDoorPl
set_option linter.unusedVariables false

/-- Is every byte one of a, b, c, d? -/
def isV (s : ByteArray) : Bool := s.data.toList.all fun b => decide (97 ≤ b.toNat ∧ b.toNat ≤ 100)

theorem isV_bt (s : ByteArray) : isV s = true ↔ ∀ i : Nat, i < s.size → 97 ≤ bt s (i : Int) ∧ bt s (i : Int) ≤ 100 := by
  unfold isV
  rw [List.all_eq_true]
  constructor
  · intro h i hi
    have := h (s[i]'hi) (by rw [show s[i]'hi = s.data.toList[i]'(by simpa using hi) from rfl]; exact List.getElem_mem _)
    unfold bt; rw [dif_pos (by simpa using hi)]
    simp only [decide_eq_true_eq] at this
    simp only [Int.toNat_natCast]
    omega
  · intro h b hb
    obtain ⟨i, hi, rfl⟩ := List.mem_iff_getElem.mp hb
    have hi' : i < s.size := by simpa using hi
    have h1 := h i hi'
    unfold bt at h1; rw [dif_pos (by simpa using hi')] at h1
    simp only [Int.toNat_natCast] at h1
    have h2 : s[i]'hi' = s.data.toList[i]'hi := rfl
    rw [h2] at h1
    simp only [decide_eq_true_eq]
    omega

theorem areVotes_eq (s : ByteArray) (hs : s.size ≤ 140737488351232) : impl_AreVotes.f s = some (decide (s.size ≤ 16) && isV s) := by
  unfold impl_AreVotes.f
  by_cases h : s.size ≤ 16
  · rw [if_pos (by omega)]
    unfold impl_isMade.f strings_Trim.f
    rw [if_pos (by omega), if_pos (by decide), if_pos (by decide)]
    simp only [Option.bind_some, Option.some.injEq]
    rw [trim_eq]
    simp only [h, decide_true, Bool.true_and]
    unfold isV
    congr 1
    funext b
    rw [Bool.eq_iff_iff]
    simp only [decide_eq_true_eq]
    have e : ∀ n : Fin 256, (([97, 98, 99, 100] : List UInt8).contains (UInt8.ofNat n.val) = true ↔ (97 ≤ n.val ∧ n.val ≤ 100)) := by decide +kernel
    have e' := e ⟨b.toNat, b.toNat_lt⟩
    rw [UInt8.ofNat_toNat] at e'
    exact e'
  · rw [if_neg (by omega)]
    simp [h]

/-- How many of the first i votes are for candidate c. -/
def cn (s : ByteArray) (c : Int) : Nat → Int
  | 0 => 0
  | i + 1 => cn s c i + (if bt s (i : Int) - 97 = c then 1 else 0)
theorem cn_bound (s : ByteArray) (c : Int) : ∀ i : Nat, 0 ≤ cn s c i ∧ cn s c i ≤ i
  | 0 => by simp [cn]
  | i + 1 => by have := cn_bound s c i; unfold cn; split <;> omega
theorem wcn (s : ByteArray) (c : Int) (i : Nat) (h : i ≤ 16) : wrap64 (cn s c i + 1) = cn s c i + 1 := by
  have hb := cn_bound s c i
  generalize cn s c i = x at hb ⊢
  exact w64 (by omega) (by omega)
theorem cn_congr (s t : ByteArray) (c : Int) : ∀ i : Nat, (∀ j : Nat, j < i → bt s (j : Int) = bt t (j : Int)) → cn s c i = cn t c i
  | 0, _ => rfl
  | i + 1, h => by unfold cn; rw [cn_congr s t c i (fun j hj => h j (by omega)), h i (by omega)]
theorem bt_extract (s : ByteArray) (m j : Nat) (hm : m ≤ s.size) (hj : j < m) : bt (s.extract 0 m) (j : Int) = bt s (j : Int) := by
  unfold bt
  have h1 : (s.extract 0 m).size = m := by rw [ByteArray.size_extract]; omega
  simp only [Int.toNat_natCast]
  rw [dif_pos (by omega), dif_pos (by omega)]
  congr 2
  rw [ByteArray.getElem_extract]
  congr 1
  omega
theorem size_pre (s : ByteArray) (m : Nat) (hm : m ≤ s.size) : (s.extract 0 m).size = m := by rw [ByteArray.size_extract]; omega

/-- Are the letters among the first ones? -/
def okV (s : ByteArray) : Prop := ∀ i : Nat, i < s.size → 97 ≤ bt s (i : Int) ∧ bt s (i : Int) ≤ 100
theorem okV_pre (s : ByteArray) (h : okV s) (m : Nat) (hm : m ≤ s.size) : okV (s.extract 0 m) := by
  intro i hi
  rw [size_pre s m hm] at hi
  rw [bt_extract s m i hm hi]; exact h i (by omega)

def ordv (s : ByteArray) (m : Nat) : Bool := decide (cn s 0 m ≥ cn s 1 m ∧ cn s 1 m ≥ cn s 2 m ∧ cn s 2 m ≥ cn s 3 m)

theorem tally_l (s : ByteArray) (hs : s.size ≤ 16) (hv : okV s) (d : Nat) : ∀ (k i : Nat), i + d = s.size → d < k → impl_tallyOf.l0 k s (s.size : Int) (i : Int) (cn s 0 i) (cn s 1 i) (cn s 2 i) (cn s 3 i) = some (cn s 0 s.size, cn s 1 s.size, cn s 2 s.size, cn s 3 s.size) := by
  induction d with
  | zero =>
    intro k i h1 h2
    obtain ⟨k, rfl⟩ : ∃ m, k = m + 1 := ⟨k - 1, by omega⟩
    obtain rfl : i = s.size := by omega
    simp only [impl_tallyOf.l0]
    rw [if_neg (by omega)]
  | succ d ih =>
    intro k i h1 h2
    obtain ⟨k, rfl⟩ : ∃ m, k = m + 1 := ⟨k - 1, by omega⟩
    have hb := hv i (by omega)
    have em : (bt s (i : Int) - 97) % 256 = bt s (i : Int) - 97 := by omega
    have ew : wrap64 ((i : Int) + 1) = ((i + 1 : Nat) : Int) := by rw [w64 (by omega) (by omega)]; omega
    have f := ih k (i + 1) (by omega) (by omega)
    have g0 := wcn s 0 i (by omega)
    have g1 := wcn s 1 i (by omega)
    have g2 := wcn s 2 i (by omega)
    have g3 := wcn s 3 i (by omega)
    simp only [impl_tallyOf.l0, em, ew, g0, g1, g2, g3]
    rw [if_pos (by omega), if_pos (by omega), if_pos (by omega), if_pos (by omega), if_pos (by omega)]
    simp only [cn] at f
    by_cases h0 : bt s (i : Int) - 97 = 0
    · rw [if_pos h0]; simp only [h0, if_true, show ((0 : Int) = 1) = False by simp, show ((0 : Int) = 2) = False by simp, show ((0 : Int) = 3) = False by simp, if_false, Int.add_zero] at f; exact f
    · rw [if_neg h0]
      by_cases h1 : bt s (i : Int) - 97 = 1
      · rw [if_pos h1]; simp only [h1, if_true, show ((1 : Int) = 0) = False by simp, show ((1 : Int) = 2) = False by simp, show ((1 : Int) = 3) = False by simp, if_false, Int.add_zero] at f; exact f
      · rw [if_neg h1]
        by_cases h2 : bt s (i : Int) - 97 = 2
        · rw [if_pos h2]; simp only [h2, if_true, show ((2 : Int) = 0) = False by simp, show ((2 : Int) = 1) = False by simp, show ((2 : Int) = 3) = False by simp, if_false, Int.add_zero] at f; exact f
        · have h3 : bt s (i : Int) - 97 = 3 := by omega
          rw [if_neg h2, if_pos h3]; simp only [h3, if_true, show ((3 : Int) = 0) = False by simp, show ((3 : Int) = 1) = False by simp, show ((3 : Int) = 2) = False by simp, if_false, Int.add_zero] at f; exact f

theorem tally_eq (s : ByteArray) (hs : s.size ≤ 16) (hv : okV s) (k : Nat) (hk : s.size < k) : impl_tallyOf.f k s = some (cn s 0 s.size, cn s 1 s.size, cn s 2 s.size, cn s 3 s.size) :=
  tally_l s hs hv s.size k 0 (by omega) hk

theorem counts_l (s : ByteArray) (hs : s.size ≤ 16) (hv : okV s) (d : Nat) : ∀ (k i : Nat), i + d = s.size → d < k → spec_voCounts.l0 k s [cn s 0 i, cn s 1 i, cn s 2 i, cn s 3 i] (i : Int) = some [cn s 0 s.size, cn s 1 s.size, cn s 2 s.size, cn s 3 s.size] := by
  induction d with
  | zero =>
    intro k i h1 h2
    obtain ⟨k, rfl⟩ : ∃ m, k = m + 1 := ⟨k - 1, by omega⟩
    obtain rfl : i = s.size := by omega
    simp only [spec_voCounts.l0]
    rw [if_neg (by omega)]
  | succ d ih =>
    intro k i h1 h2
    obtain ⟨k, rfl⟩ : ∃ m, k = m + 1 := ⟨k - 1, by omega⟩
    have hb := hv i (by omega)
    have em : (bt s (i : Int) - 97) % 256 = bt s (i : Int) - 97 := by omega
    have ew : wrap64 ((i : Int) + 1) = ((i + 1 : Nat) : Int) := by rw [w64 (by omega) (by omega)]; omega
    have f := ih k (i + 1) (by omega) (by omega)
    simp only [spec_voCounts.l0, em, ew, List.length_cons, List.length_nil]
    rw [if_pos (by omega), if_pos (by omega), if_pos (by omega), if_pos (by omega)]
    simp only [cn] at f
    by_cases h0 : bt s (i : Int) - 97 = 0
    · simp only [h0, if_true, show ((0 : Int) = 1) = False by simp, show ((0 : Int) = 2) = False by simp, show ((0 : Int) = 3) = False by simp, if_false, Int.add_zero] at f ⊢
      rw [show rd [cn s 0 i, cn s 1 i, cn s 2 i, cn s 3 i] 0 = cn s 0 i from rfl, wcn s 0 i (by omega)]; exact f
    · by_cases h1 : bt s (i : Int) - 97 = 1
      · simp only [h1, if_true, show ((1 : Int) = 0) = False by simp, show ((1 : Int) = 2) = False by simp, show ((1 : Int) = 3) = False by simp, if_false, Int.add_zero] at f ⊢
        rw [show rd [cn s 0 i, cn s 1 i, cn s 2 i, cn s 3 i] 1 = cn s 1 i from rfl, wcn s 1 i (by omega)]; exact f
      · by_cases h2 : bt s (i : Int) - 97 = 2
        · simp only [h2, if_true, show ((2 : Int) = 0) = False by simp, show ((2 : Int) = 1) = False by simp, show ((2 : Int) = 3) = False by simp, if_false, Int.add_zero] at f ⊢
          rw [show rd [cn s 0 i, cn s 1 i, cn s 2 i, cn s 3 i] 2 = cn s 2 i from rfl, wcn s 2 i (by omega)]; exact f
        · have h3 : bt s (i : Int) - 97 = 3 := by omega
          simp only [h3, if_true, show ((3 : Int) = 0) = False by simp, show ((3 : Int) = 1) = False by simp, show ((3 : Int) = 2) = False by simp, if_false, Int.add_zero] at f ⊢
          rw [show rd [cn s 0 i, cn s 1 i, cn s 2 i, cn s 3 i] 3 = cn s 3 i from rfl, wcn s 3 i (by omega)]; exact f

theorem counts_eq (s : ByteArray) (hs : s.size ≤ 16) (hv : okV s) (k : Nat) (hk : s.size < k) : spec_voCounts.f k s = some [cn s 0 s.size, cn s 1 s.size, cn s 2 s.size, cn s 3 s.size] := by
  unfold spec_voCounts.f
  rw [if_pos (by decide)]
  exact counts_l s hs hv s.size k 0 (by omega) hk

theorem falls_eq (a b c d : Int) (k : Nat) (hk : 5 < k) : spec_voFalls.f k [a, b, c, d] = some (decide (a ≥ b ∧ b ≥ c ∧ c ≥ d)) := by
  obtain ⟨k, rfl⟩ : ∃ m, k = m + 4 := ⟨k - 4, by omega⟩
  unfold spec_voFalls.f
  have w0 : wrap64 (1 - 1) = 0 := by rw [w64 (by omega) (by omega)]; rfl
  have w1 : wrap64 (2 - 1) = 1 := by rw [w64 (by omega) (by omega)]; rfl
  have w2 : wrap64 (3 - 1) = 2 := by rw [w64 (by omega) (by omega)]; rfl
  have v1 : wrap64 (1 + 1) = 2 := by rw [w64 (by omega) (by omega)]; rfl
  have v2 : wrap64 (2 + 1) = 3 := by rw [w64 (by omega) (by omega)]; rfl
  have v3 : wrap64 (3 + 1) = 4 := by rw [w64 (by omega) (by omega)]; rfl
  have r0 : rd [a, b, c, d] 0 = a := rfl
  have r1 : rd [a, b, c, d] 1 = b := rfl
  have r2 : rd [a, b, c, d] 2 = c := rfl
  have r3 : rd [a, b, c, d] 3 = d := rfl
  have l4 : (([a, b, c, d] : List Int).length : Int) = 4 := rfl
  simp only [spec_voFalls.l0, l4, w0, w1, w2, v1, v2, v3, r0, r1, r2, r3]
  simp only [show ((1 : Int) < 4) = True by simp, show ((2 : Int) < 4) = True by simp, show ((3 : Int) < 4) = True by simp, show ((0 : Int) < 4) = True by simp, show ((4 : Int) < 4) = False by simp, show ((0 : Int) ≤ 0) = True by simp, show ((0 : Int) ≤ 1) = True by simp, show ((0 : Int) ≤ 2) = True by simp, show ((0 : Int) ≤ 3) = True by simp, if_true, if_false]
  by_cases h1 : a < b
  · rw [if_pos h1, decide_eq_false (by omega)]
  · rw [if_neg h1]
    by_cases h2 : b < c
    · rw [if_pos h2, decide_eq_false (by omega)]
    · rw [if_neg h2]
      by_cases h3 : c < d
      · rw [if_pos h3, decide_eq_false (by omega)]
      · rw [if_neg h3, decide_eq_true (by omega)]

theorem ordered_eq (a b c d : Int) : impl_tally_isOrdered.f a b c d = some (decide (a ≥ b ∧ b ≥ c ∧ c ≥ d)) := by
  unfold impl_tally_isOrdered.f
  by_cases h1 : a ≥ b
  · rw [if_pos h1]
    by_cases h2 : b ≥ c
    · rw [if_pos h2]; congr 1; rw [decide_eq_decide]; omega
    · rw [if_neg h2, decide_eq_false (by omega)]
  · rw [if_neg h1, decide_eq_false (by omega)]


/-- The first number of votes behind which they are not ordered, from i on, or -1. -/
def fo (s : ByteArray) : Nat → Nat → Int
  | 0, _ => -1
  | d + 1, i => if ordv s (i + 1) = true then fo s d (i + 1) else ((i + 1 : Nat) : Int)
theorem fo_succ (s : ByteArray) (d i : Nat) : fo s (d + 1) i = if ordv s (i + 1) = true then fo s d (i + 1) else ((i + 1 : Nat) : Int) := rfl
theorem fo_le (s : ByteArray) : ∀ d i : Nat, fo s d i = -1 ∨ (1 ≤ fo s d i ∧ fo s d i ≤ i + d)
  | 0, _ => .inl rfl
  | d + 1, i => by
    rw [fo_succ]; split
    · have := fo_le s d (i + 1); omega
    · right; omega

theorem pre_cn (s : ByteArray) (m : Nat) (hm : m ≤ s.size) (c : Int) : cn (s.extract 0 m) c (s.extract 0 m).size = cn s c m := by
  rw [size_pre s m hm]; exact cn_congr _ _ c m (fun j hj => bt_extract s m j hm hj)

theorem over_l (s : ByteArray) (hs : s.size ≤ 16) (hv : okV s) (d : Nat) : ∀ (k i : Nat), i + d = s.size → d + 20 < k → impl_overtaken.l0 k s (s.size : Int) (i : Int) = some (fo s d i) := by
  induction d with
  | zero =>
    intro k i h1 h2
    obtain ⟨k, rfl⟩ : ∃ m, k = m + 1 := ⟨k - 1, by omega⟩
    simp only [impl_overtaken.l0]
    rw [if_neg (by omega)]; first | done | rfl
  | succ d ih =>
    intro k i h1 h2
    obtain ⟨k, rfl⟩ : ∃ m, k = m + 1 := ⟨k - 1, by omega⟩
    have ew : wrap64 ((i : Int) + 1) = ((i + 1 : Nat) : Int) := by rw [w64 (by omega) (by omega)]; omega
    simp only [impl_overtaken.l0, ew, Int.toNat_natCast]
    rw [if_pos (by omega), if_pos (by omega), if_pos (by omega), tally_eq _ (by rw [size_pre s _ (by omega)]; omega) (okV_pre s hv _ (by omega)) k (by rw [size_pre s _ (by omega)]; omega)]
    simp only [Option.bind_some, pre_cn s (i + 1) (by omega)]
    rw [ordered_eq]
    simp only [Option.bind_some]
    rw [ih k (i + 1) (by omega) (by omega)]
    show (if ordv s (i + 1) = true then _ else _) = some (fo s (d + 1) i)
    rw [fo_succ]; split <;> rfl

theorem first_l (s : ByteArray) (hs : s.size ≤ 16) (hv : okV s) (d : Nat) : ∀ (k i : Nat), i + d = s.size → d + 20 < k → spec_voFirst.l0 k s ((i + 1 : Nat) : Int) = some (fo s d i) := by
  induction d with
  | zero =>
    intro k i h1 h2
    obtain ⟨k, rfl⟩ : ∃ m, k = m + 1 := ⟨k - 1, by omega⟩
    simp only [spec_voFirst.l0]
    rw [if_neg (by omega)]; first | done | rfl
  | succ d ih =>
    intro k i h1 h2
    obtain ⟨k, rfl⟩ : ∃ m, k = m + 1 := ⟨k - 1, by omega⟩
    have ew : wrap64 (((i + 1 : Nat) : Int) + 1) = ((i + 1 + 1 : Nat) : Int) := by rw [w64 (by omega) (by omega)]; omega
    simp only [spec_voFirst.l0, ew, Int.toNat_natCast]
    rw [if_pos (by omega), if_pos (by omega), counts_eq _ (by rw [size_pre s _ (by omega)]; omega) (okV_pre s hv _ (by omega)) k (by rw [size_pre s _ (by omega)]; omega)]
    simp only [Option.bind_some, pre_cn s (i + 1) (by omega)]
    rw [falls_eq _ _ _ _ k (by omega)]
    simp only [Option.bind_some]
    rw [ih k (i + 1) (by omega) (by omega)]
    show (if ordv s (i + 1) = true then _ else _) = some (fo s (d + 1) i)
    rw [fo_succ]; split <;> rfl

theorem over_eq (s : ByteArray) (hs : s.size ≤ 16) (hv : okV s) (k : Nat) (hk : 40 < k) : impl_overtaken.f k s = some (fo s s.size 0) := over_l s hs hv s.size k 0 (by omega) (by omega)
theorem first_eq (s : ByteArray) (hs : s.size ≤ 16) (hv : okV s) (k : Nat) (hk : 40 < k) : spec_voFirst.f k s = some (fo s s.size 0) := first_l s hs hv s.size k 0 (by omega) (by omega)

/-- Are the votes ordered all along? -/
def ordAll (s : ByteArray) : Bool := decide (fo s s.size 0 < 0)
theorem areOrd_eq (s : ByteArray) (hs : s.size ≤ 140737488351232) (k : Nat) (hk : 60 < k) : impl_areOrderedVotes.f k s = some ((decide (s.size ≤ 16) && isV s) && ordAll s) := by
  unfold impl_areOrderedVotes.f
  rw [areVotes_eq s hs]
  by_cases h : s.size ≤ 16 ∧ isV s = true
  · have hc : (decide (s.size ≤ 16) && isV s) = true := by simp [h]
    have hv : okV s := (isV_bt s).mp h.2
    rw [hc]
    simp only [Option.bind_some, if_true]
    rw [over_eq s h.1 hv k (by omega)]
    rfl
  · have hc : (decide (s.size ≤ 16) && isV s) = false := by
      cases hh : (decide (s.size ≤ 16) && isV s) with
      | false => rfl
      | true => exact absurd (by simpa using hh) h
    rw [hc]; rfl

theorem bt_list (s : ByteArray) (i : Nat) (hi : i < s.data.toList.length) : bt s (i : Int) = ((s.data.toList[i]'hi).toNat : Int) := by
  unfold bt; rw [dif_pos (by simpa using hi)]
  simp only [Int.toNat_natCast]
  rfl
theorem bt_abcd (t : Int) (h0 : 0 ≤ t) (h1 : t ≤ 3) : bt (⟨#[97, 98, 99, 100]⟩ : ByteArray) t = 97 + t := by
  obtain h | h | h | h : t = 0 ∨ t = 1 ∨ t = 2 ∨ t = 3 := by omega
  all_goals subst h; rfl

theorem eqI_self (l : List Int) (hl : l.length ≤ 1048577) (k : Nat) (hk : l.length < k) : laws_eqIntS.f k l l = some true := by
  unfold laws_eqIntS.f
  rw [if_pos rfl]
  exact (loop_range (fun k (_ : Unit) i => laws_eqIntS.l0 k l l i) l.length (fun _ _ => ()) (fun _ => true) (fun _ _ => True)
    (fun k i _ hi _ => by
      refine ⟨?_, trivial⟩
      have e3 : wrap64 ((i : Int) + 1) = ((i + 1 : Nat) : Int) := by rw [w64 (by omega) (by omega)]; omega
      simp only [laws_eqIntS.l0, e3, if_true]
      repeat rw [if_pos (by omega)])
    (fun k _ _ => by simp only [laws_eqIntS.l0]; rw [if_neg (by omega)]) k () trivial hk).1


theorem toI_eq (l : List Int) (hl : l.length ≤ 1048577) (k : Nat) (hk : l.length < k) : laws_toIntS.f k l = some l := by
  unfold laws_toIntS.f
  rw [if_pos (by omega), if_pos (by omega)]
  have := loop_range (fun k (xs : List Int) i => laws_toIntS.l0 k l xs i) l.length (fun xs i => xs.set i (rd l (i : Int))) id (fun i xs => xs.length = l.length ∧ ∀ j : Nat, j < i → rd xs (j : Int) = rd l (j : Int))
    (fun k i xs hi hI => by
      obtain ⟨h1, h2⟩ := hI
      refine ⟨?_, ?_, ?_⟩
      · have e3 : wrap64 ((i : Int) + 1) = ((i + 1 : Nat) : Int) := by rw [w64 (by omega) (by omega)]; omega
        simp only [laws_toIntS.l0, e3, Int.toNat_natCast]
        repeat rw [if_pos (by omega)]
      · simpa using h1
      · intro j hj
        by_cases e : j = i
        · subst e
          rw [rd_nat _ _ (by rw [List.length_set]; omega), List.getElem_set_self]
        · rw [rd_nat _ _ (by rw [List.length_set]; omega), List.getElem_set_ne (by omega), ← rd_nat _ _ (by omega)]
          exact h2 j (by omega))
    (fun k xs hI => by simp only [laws_toIntS.l0]; rw [if_neg (by omega)]; rfl) k (List.replicate l.length 0) ⟨by simp, fun j hj => by omega⟩ hk
  rw [show ((l.length : Int) : Int).toNat = l.length from Int.toNat_natCast _]
  obtain ⟨h1, h2, h3⟩ := this
  rw [show laws_toIntS.l0 k l (List.replicate l.length 0) 0 = _ from h1, id]
  congr 1
  refine List.ext_getElem h2 fun j ha hb => ?_
  have := h3 j hb
  rw [rd_nat _ _ hb, rd_nat _ _ ha] at this
  exact this


theorem rdL1_nat (xs : List (List Int)) (i : Nat) : rd_L1 xs (i : Int) = xs.getD i [] := by unfold rd_L1; rw [Int.toNat_natCast]

theorem getD_set_self (xs : List (List Int)) (i : Nat) (m : List Int) (h : i < xs.length) : (xs.set i m).getD i [] = m := by
  rw [List.getD_eq_getElem?_getD, List.getElem?_set_self h]; rfl
theorem getD_set_ne (xs : List (List Int)) (i j : Nat) (m : List Int) (h : i ≠ j) : (xs.set i m).getD j [] = xs.getD j [] := by
  rw [List.getD_eq_getElem?_getD, List.getElem?_set_ne h, ← List.getD_eq_getElem?_getD]
/-- How many numbers stand in the rows before row i. -/
def pre (L : List (List Int)) : Nat → Nat
  | 0 => 0
  | i + 1 => pre L i + (L.getD i []).length

theorem eqSSb_l (L : List (List Int)) (hL : L.length ≤ 1048577) (hr : ∀ j : Nat, (L.getD j []).length ≤ 1048577) (d : Nat) : ∀ (k i : Nat), i + d = L.length → d + 1048579 < k → laws_eqIntSS.l0 k L L (i : Int) = some true := by
  induction d with
  | zero =>
    intro k i h1 h2
    obtain ⟨k, rfl⟩ : ∃ m, k = m + 1 := ⟨k - 1, by omega⟩
    simp only [laws_eqIntSS.l0]
    rw [if_neg (by omega)]
  | succ d ih =>
    intro k i h1 h2
    obtain ⟨k, rfl⟩ : ∃ m, k = m + 1 := ⟨k - 1, by omega⟩
    have e3 : wrap64 ((i : Int) + 1) = ((i + 1 : Nat) : Int) := by rw [w64 (by omega) (by omega)]; omega
    have := hr i
    simp only [laws_eqIntSS.l0, e3, rdL1_nat]
    rw [if_pos (by omega), if_pos (by omega), if_pos (by omega), eqI_self _ (by omega) k (by omega)]
    simp only [Option.bind_some, if_true]
    exact ih k (i + 1) (by omega) (by omega)
theorem eqSSb_self (L : List (List Int)) (hL : L.length ≤ 1048577) (hr : ∀ j : Nat, (L.getD j []).length ≤ 1048577) (k : Nat) (hk : 2100000 < k) : laws_eqIntSS.f k L L = some true := by
  unfold laws_eqIntSS.f
  rw [if_pos rfl]
  exact eqSSb_l L hL hr L.length k 0 (by omega) (by omega)
theorem getD_ext (L ys : List (List Int)) (h : ys.length = L.length) (he : ∀ j : Nat, j < L.length → ys.getD j [] = L.getD j []) : ys = L := by
  refine List.ext_getElem h fun j h1 h2 => ?_
  have := he j h2
  rw [List.getD_eq_getElem?_getD, List.getD_eq_getElem?_getD, List.getElem?_eq_getElem h1, List.getElem?_eq_getElem h2] at this
  exact this
theorem toISS_l (L : List (List Int)) (hL : L.length ≤ 1048577) (hr : ∀ j : Nat, (L.getD j []).length ≤ 1048577) (d : Nat) : ∀ (k i : Nat) (xs : List (List Int)), i + d = L.length → d + 1048579 < k → xs.length = L.length → (∀ j : Nat, j < i → xs.getD j [] = L.getD j []) → laws_toIntSS.l0 k L xs (i : Int) = some L := by
  induction d with
  | zero =>
    intro k i xs h1 h2 h3 h4
    obtain ⟨k, rfl⟩ : ∃ m, k = m + 1 := ⟨k - 1, by omega⟩
    obtain rfl : i = L.length := by omega
    simp only [laws_toIntSS.l0]
    rw [if_neg (by omega), getD_ext L xs h3 h4]
  | succ d ih =>
    intro k i xs h1 h2 h3 h4
    obtain ⟨k, rfl⟩ : ∃ m, k = m + 1 := ⟨k - 1, by omega⟩
    have e3 : wrap64 ((i : Int) + 1) = ((i + 1 : Nat) : Int) := by rw [w64 (by omega) (by omega)]; omega
    have := hr i
    simp only [laws_toIntSS.l0, e3, rdL1_nat, Int.toNat_natCast]
    rw [if_pos (by omega), if_pos (by omega), toI_eq _ (by omega) k (by omega)]
    simp only [Option.bind_some]
    rw [if_pos (by omega)]
    refine ih k (i + 1) (xs.set i (L.getD i [])) (by omega) (by omega) (by rw [List.length_set]; exact h3) (fun j hj => ?_)
    by_cases e : j = i
    · subst e
      rw [getD_set_self _ _ _ (by omega)]
    · rw [getD_set_ne _ _ _ _ (by omega)]
      exact h4 j (by omega)
theorem toISS_eq (L : List (List Int)) (hL : L.length ≤ 1048577) (hr : ∀ j : Nat, (L.getD j []).length ≤ 1048577) (k : Nat) (hk : 2100000 < k) : laws_toIntSS.f k L = some L := by
  unfold laws_toIntSS.f
  rw [if_pos (by omega), if_pos (by omega), show ((L.length : Int) : Int).toNat = L.length from Int.toNat_natCast _]
  exact toISS_l L hL hr L.length k 0 _ (by omega) (by omega) (by simp) (fun j hj => by omega)
theorem sz_l (L : List (List Int)) (hL : L.length ≤ 1048577) (hb : ∀ j : Nat, (L.getD j []).length * 8 ≤ 140737488351232) (d : Nat) : ∀ (k i : Nat) (a : Int), i + d = L.length → d < k → 0 ≤ a → a ≤ 1048576 →
    ∃ t, laws_szIntSS.l0 k L a (i : Int) = some t ∧ (t < 0 ∨ ∀ j : Nat, i ≤ j → (L.getD j []).length ≤ 1048577) := by
  induction d with
  | zero =>
    intro k i a h1 h2 h3 h4
    obtain ⟨k, rfl⟩ : ∃ m, k = m + 1 := ⟨k - 1, by omega⟩
    simp only [laws_szIntSS.l0]
    rw [if_neg (by omega)]
    refine ⟨a, rfl, .inr fun j hj => ?_⟩
    rw [List.getD_eq_getElem?_getD, List.getElem?_eq_none (by omega)]; simp
  | succ d ih =>
    intro k i a h1 h2 h3 h4
    obtain ⟨k, rfl⟩ : ∃ m, k = m + 1 := ⟨k - 1, by omega⟩
    have e3 : wrap64 ((i : Int) + 1) = ((i + 1 : Nat) : Int) := by rw [w64 (by omega) (by omega)]; omega
    have b := hb i
    simp only [laws_szIntSS.l0, e3, rdL1_nat]
    rw [if_pos (by omega), if_pos (by omega)]
    unfold laws_szIntS.f
    rw [w64 (x := a - ((L.getD i []).length : Int)) (by omega) (by omega)]
    by_cases c : a - ((L.getD i []).length : Int) < 0
    · rw [if_pos c]
      exact ⟨-1, by simp, .inl (by decide)⟩
    · rw [if_neg c]
      simp only [Option.bind_some]
      rw [if_neg c]
      obtain ⟨t, t1, t2⟩ := ih k (i + 1) (a - ((L.getD i []).length : Int)) (by omega) (by omega) (by omega) (by omega)
      refine ⟨t, t1, ?_⟩
      rcases t2 with t2 | t2
      · exact .inl t2
      · refine .inr fun j hj => ?_
        by_cases e : j = i
        · subst e; omega
        · exact t2 j (by omega)
theorem sz_eq (L : List (List Int)) (hl : L.length * 24 ≤ 140737488351232) (hb : ∀ j : Nat, (L.getD j []).length * 8 ≤ 140737488351232) (k : Nat) (hk : L.length < k) :
    ∃ t, laws_szIntSS.f k L 1048576 = some t ∧ (t < 0 ∨ (L.length ≤ 1048577 ∧ ∀ j : Nat, (L.getD j []).length ≤ 1048577)) := by
  unfold laws_szIntSS.f
  rw [w64 (x := 1048576 - (L.length : Int)) (by omega) (by omega)]
  by_cases c : 1048576 - (L.length : Int) < 0
  · rw [if_pos c]; exact ⟨-1, rfl, .inl (by decide)⟩
  · rw [if_neg c]
    obtain ⟨t, t1, t2⟩ := sz_l L (by omega) hb L.length k 0 (1048576 - (L.length : Int)) (by omega) hk (by omega) (by omega)
    exact ⟨t, t1, t2.imp id fun h => ⟨by omega, fun j => h j (by omega)⟩⟩

/-! ### The table read back -/
def nz (o : List Int) : Nat := o.countP fun x => decide (x ≠ 0)
/-- n letters, of which t are there. -/
def inv (n t : Nat) (o : List Int) : Prop := o.length = n ∧ (∀ x ∈ o, x = 0 ∨ (97 ≤ x ∧ x ≤ 100)) ∧ nz o = t
theorem inv_set {n t : Nat} {o : List Int} (h : inv n t o) (p : Nat) (hp : p < o.length) (h0 : o[p] = 0) (c : Int) (hc : 97 ≤ c ∧ c ≤ 100) : inv n (t + 1) (o.set p c) := by
  obtain ⟨h1, h2, h3⟩ := h
  refine ⟨by rw [List.length_set]; exact h1, fun x hx => ?_, ?_⟩
  · rcases List.mem_or_eq_of_mem_set hx with hx | hx
    · exact h2 x hx
    · subst hx; exact .inr hc
  · unfold nz at h3 ⊢
    rw [List.countP_set hp, h0, h3]
    have : c ≠ 0 := by omega
    simp [this]
theorem inv_zero (n : Nat) : inv n 0 (List.replicate n 0) := by
  refine ⟨by simp, fun x hx => .inl (List.eq_of_mem_replicate hx), ?_⟩
  unfold nz
  rw [List.countP_eq_zero]
  intro x hx
  rw [List.eq_of_mem_replicate hx]; decide
theorem inv_end {n : Nat} {o : List Int} (h : inv n n o) : ∀ x ∈ o, 97 ≤ x ∧ x ≤ 100 := by
  obtain ⟨h1, h2, h3⟩ := h
  have h4 := List.countP_eq_length.mp (h3.trans h1.symm)
  intro x hx
  have := h4 x hx
  simp only [decide_eq_true_eq] at this
  rcases h2 x hx with h | h
  · exact absurd h this
  · exact h
theorem okV_str {n : Nat} {o : List Int} (h : inv n n o) : okV (strOfNums o) := by
  intro i hi
  rw [strOfNums_size] at hi
  have hl : i < (strOfNums o).data.toList.length := by rw [strOfNums_data, List.length_map]; exact hi
  rw [bt_list _ i hl]
  have e : (strOfNums o).data.toList[i]'hl = UInt8.ofNat (o[i]).toNat := by simp only [strOfNums_data, List.getElem_map]
  rw [e]
  have := inv_end h o[i] (List.getElem_mem _)
  have e2 : (UInt8.ofNat (o[i]).toNat).toNat = (o[i]).toNat := by
    rw [UInt8.toNat_ofNat']; omega
  rw [e2]; omega
def fin (o : List Int) : ByteArray × Bool := if fo (strOfNums o) (strOfNums o).size 0 < 0 then (strOfNums o, true) else ((⟨#[]⟩ : ByteArray), false)
theorem spec_end {n : Nat} (hn : n ≤ 16) {o : List Int} (h : inv n n o) (k : Nat) (hk : 60 < k) : ((spec_voFirst.f k (strOfNums o)).bind fun t => (if t ≥ 0 then (some ((⟨#[]⟩ : ByteArray), false)) else (some (strOfNums o, true)))) = some (fin o) := by
  have hs : (strOfNums o).size ≤ 16 := by rw [strOfNums_size, h.1]; exact hn
  rw [first_eq _ hs (okV_str h) k (by omega)]
  simp only [Option.bind_some]
  unfold fin
  by_cases c : fo (strOfNums o) (strOfNums o).size 0 < 0
  · rw [if_neg (by omega), if_pos c]
  · rw [if_pos (by omega), if_neg c]
theorem impl_end {n : Nat} (hn : n ≤ 16) {o : List Int} (h : inv n n o) (k : Nat) (hk : 60 < k) : ((impl_areOrderedVotes.f k (strOfNums o)).bind fun t => (if t = true then (some (strOfNums o, true)) else (some ((⟨#[]⟩ : ByteArray), false)))) = some (fin o) := by
  have hs : (strOfNums o).size ≤ 16 := by rw [strOfNums_size, h.1]; exact hn
  rw [areOrd_eq _ (by omega) k (by omega), show (decide ((strOfNums o).size ≤ 16) && isV (strOfNums o)) = true by rw [decide_eq_true hs, (isV_bt _).mpr (okV_str h)]; rfl]
  simp only [Option.bind_some, Bool.true_and]
  unfold fin ordAll
  by_cases c : fo (strOfNums o) (strOfNums o).size 0 < 0
  · rw [decide_eq_true c, if_pos rfl, if_pos c]
  · rw [decide_eq_false c, if_neg (by decide), if_neg c]
/-- One row put in. -/
def m2 (n : Nat) (c : Int) (row : List Int) : Nat → Nat → List Int → Option (List Int)
  | 0, _, o => some o
  | d + 1, j, o => if 1 ≤ rd row (j : Int) ∧ rd row (j : Int) ≤ (n : Int) then (if rd o (rd row (j : Int) - 1) = 0 then (if 0 < j ∧ rd row ((j : Int) - 1) ≥ rd row (j : Int) then none else m2 n c row d (j + 1) (o.set (rd row (j : Int) - 1).toNat c)) else none) else none
def m1 (n : Nat) (rows : List (List Int)) : Nat → Nat → List Int → ByteArray × Bool
  | 0, _, o => fin o
  | e + 1, i, o => match m2 n (97 + (i : Int)) (rows.getD i []) (rows.getD i []).length 0 o with
    | none => ((⟨#[]⟩ : ByteArray), false)
    | some o' => m1 n rows e (i + 1) o'
theorem spec_in (x : Int) (n : Nat) : spec_l1In.f x 1 (n : Int) = some (decide (1 ≤ x ∧ x ≤ (n : Int))) := by
  unfold spec_l1In.f
  by_cases h : x ≥ 1
  · rw [if_pos h]; congr 1; rw [decide_eq_decide]; omega
  · rw [if_neg h, decide_eq_false (by omega)]
theorem impl_in_ (x : Int) (n : Nat) : impl_in.f x 1 (n : Int) = some (decide (1 ≤ x ∧ x ≤ (n : Int))) := by
  unfold impl_in.f
  by_cases h : 1 ≤ x
  · rw [if_pos h]; congr 1; rw [decide_eq_decide]; omega
  · rw [if_neg h, decide_eq_false (by omega)]
theorem w_sub1 (v : Int) (n m : Nat) (hn : n ≤ 16) (hm : m = n) (c : 1 ≤ v ∧ v ≤ (n : Int)) : wrap64 (v - 1) = v - 1 ∧ 0 ≤ v - 1 ∧ v - 1 < (m : Int) ∧ (v - 1).toNat < m ∧ ((v - 1).toNat : Int) = v - 1 := by
  refine ⟨w64 (by omega) (by omega), by omega, by omega, by omega, by omega⟩
theorem w_pred (j r : Nat) (hj : 0 < j) (hr : j < r) (hr2 : r ≤ 16) : (j : Int) > 0 ∧ wrap64 ((j : Int) - 1) = (j : Int) - 1 ∧ 0 ≤ (j : Int) - 1 ∧ (j : Int) - 1 < (r : Int) := by
  refine ⟨by omega, w64 (by omega) (by omega), by omega, by omega⟩
theorem w_cast (j r : Nat) (h : j < r) : (j : Int) < (r : Int) := by omega
theorem w_ncast (j r : Nat) (h : ¬ j < r) : ¬ (j : Int) < (r : Int) := by omega
theorem w_npos (j : Nat) (h : ¬ 0 < j) : ¬ (j : Int) > 0 := by omega
theorem w_lt4 (i : Nat) (h : i < 4) : (i : Int) < 4 := by omega
theorem w_succ (j : Nat) (h : j ≤ 1000) : wrap64 ((j : Int) + 1) = ((j + 1 : Nat) : Int) := by rw [w64 (by omega) (by omega)]; omega
theorem letter (i : Nat) (hi : i < 4) : wrap64 (97 + (i : Int)) % 256 = 97 + (i : Int) := by
  rw [w64 (by omega) (by omega)]; omega
theorem letter_lo (i : Nat) : 97 ≤ 97 + (i : Int) := by omega
theorem letter_hi (i : Nat) (hi : i < 4) : 97 + (i : Int) ≤ 100 := by omega
theorem spec_l2 (n : Nat) (hn : n ≤ 16) (rows : List (List Int)) (row : List Int) (hr : row.length ≤ 16) (i : Nat) (hi : i < 4) (t0 B : Nat) (R : List Int → ByteArray × Bool)
    (H : ∀ o, inv n t0 o → ∀ k, B < k → spec_VotesOfTable.l1 k (n : Int) o rows (rows.length : Int) ((i + 1 : Nat) : Int) = some (R o)) (d : Nat) :
    ∀ (j k t : Nat) (o : List Int), j + d = row.length → B + d + 1 < k → inv n t o → t + d = t0 →
      spec_VotesOfTable.l2 k (n : Int) o (i : Int) row rows (rows.length : Int) (i : Int) row (row.length : Int) (j : Int) = some (match m2 n (97 + (i : Int)) row d j o with | none => ((⟨#[]⟩ : ByteArray), false) | some o' => R o') := by
  have ei := w_succ i (by omega)
  induction d with
  | zero =>
    intro j k t o h1 h2 h3 h4
    obtain ⟨k, rfl⟩ : ∃ m, k = m + 1 := ⟨k - 1, by omega⟩
    simp only [spec_VotesOfTable.l2, ei, m2]
    rw [if_neg (w_ncast j row.length (by omega))]
    obtain rfl : t = t0 := by omega
    exact H o h3 k (by omega)
  | succ d ih =>
    intro j k t o h1 h2 h3 h4
    obtain ⟨k, rfl⟩ : ∃ m, k = m + 1 := ⟨k - 1, by omega⟩
    have q1 := w_cast j row.length (by omega)
    have q2 : (0 : Int) ≤ (j : Int) := Int.natCast_nonneg j
    have e3 := w_succ j (by omega)
    simp only [spec_VotesOfTable.l2, e3, spec_in, letter i hi, m2]
    rw [if_pos q1, if_pos q2, if_pos q1]
    simp only [Option.bind_some]
    by_cases c1 : 1 ≤ rd row (j : Int) ∧ rd row (j : Int) ≤ (n : Int)
    · obtain ⟨e1, s1, s2, hp, s3⟩ := w_sub1 (rd row (j : Int)) n o.length hn h3.1 c1
      rw [decide_eq_true c1, if_pos (Eq.refl true), if_pos c1, e1, if_pos s1, if_pos s2]
      by_cases c2 : rd o (rd row (j : Int) - 1) = 0
      · rw [if_pos c2, if_pos c2]
        have h0 : o[(rd row (j : Int) - 1).toNat] = 0 := by
          have := rd_nat o (rd row (j : Int) - 1).toNat hp
          rw [s3] at this
          rw [← this]; exact c2
        have f := ih (j + 1) k (t + 1) (o.set (rd row (j : Int) - 1).toNat (97 + (i : Int))) (by omega) (by omega) (inv_set h3 _ hp h0 _ ⟨letter_lo i, letter_hi i hi⟩) (by omega)
        by_cases c3 : 0 < j
        · obtain ⟨p1, e2, p2, p3⟩ := w_pred j row.length c3 (Int.ofNat_lt.mp q1) hr
          rw [if_pos p1, e2, if_pos p2, if_pos p3]
          by_cases c4 : rd row ((j : Int) - 1) ≥ rd row (j : Int)
          · rw [if_pos c4, if_pos ⟨c3, c4⟩]
          · rw [if_neg c4, if_neg (fun h => c4 h.2)]
            exact f
        · rw [if_neg (w_npos j c3), if_neg (fun h => c3 h.1)]
          exact f
      · rw [if_neg c2, if_neg c2]
    · rw [decide_eq_false c1, if_neg (show ¬ (false = true) by decide), if_neg c1]
theorem spec_l1 (n : Nat) (hn : n ≤ 16) (rows : List (List Int)) (h4 : rows.length = 4) (hr : ∀ j : Nat, (rows.getD j []).length ≤ 16) (hp : pre rows 4 = n) (e : Nat) :
    ∀ (i k : Nat) (o : List Int), i + e = 4 → 100 + 20 * e < k → inv n (pre rows i) o → spec_VotesOfTable.l1 k (n : Int) o rows (rows.length : Int) (i : Int) = some (m1 n rows e i o) := by
  induction e with
  | zero =>
    intro i k o h1 h2 h3
    obtain ⟨k, rfl⟩ : ∃ m, k = m + 1 := ⟨k - 1, by omega⟩
    obtain rfl : i = 4 := by omega
    rw [hp] at h3
    simp only [spec_VotesOfTable.l1, m1]
    rw [if_neg (show ¬ ((4 : Nat) : Int) < (rows.length : Int) by omega)]
    exact spec_end hn h3 k (by omega)
  | succ e ih =>
    intro i k o h1 h2 h3
    obtain ⟨k, rfl⟩ : ∃ m, k = m + 1 := ⟨k - 1, by omega⟩
    have hri := hr i
    simp only [spec_VotesOfTable.l1, rdL1_nat, m1]
    have q1 : (i : Int) < (rows.length : Int) := by omega
    have q2 : (0 : Int) ≤ (i : Int) := by omega
    rw [if_pos q1, if_pos q2, if_pos q1]
    exact spec_l2 n hn rows (rows.getD i []) hri i (by omega) (pre rows (i + 1)) (100 + 20 * e) (fun o => m1 n rows e (i + 1) o) (fun o ho k hk => ih (i + 1) k o (by omega) hk ho) (rows.getD i []).length 0 k (pre rows i) o (by omega) (by omega) h3 rfl
theorem impl_l2 (n : Nat) (hn : n ≤ 16) (rows : List (List Int)) (row : List Int) (hr : row.length ≤ 16) (i : Nat) (hi : i < 4) (t0 B : Nat) (R : List Int → ByteArray × Bool)
    (H : ∀ o, inv n t0 o → ∀ k, B < k → impl_VotesOfTable.l1 k (n : Int) o rows (rows.length : Int) ((i + 1 : Nat) : Int) = some (R o)) (d : Nat) :
    ∀ (j k t : Nat) (o : List Int), j + d = row.length → B + d + 1 < k → inv n t o → t + d = t0 →
      impl_VotesOfTable.l2 k (n : Int) o (i : Int) row rows (rows.length : Int) (i : Int) row (row.length : Int) (j : Int) = some (match m2 n (97 + (i : Int)) row d j o with | none => ((⟨#[]⟩ : ByteArray), false) | some o' => R o') := by
  have ei := w_succ i (by omega)
  induction d with
  | zero =>
    intro j k t o h1 h2 h3 h4
    obtain ⟨k, rfl⟩ : ∃ m, k = m + 1 := ⟨k - 1, by omega⟩
    simp only [impl_VotesOfTable.l2, ei, m2]
    rw [if_neg (w_ncast j row.length (by omega))]
    obtain rfl : t = t0 := by omega
    exact H o h3 k (by omega)
  | succ d ih =>
    intro j k t o h1 h2 h3 h4
    obtain ⟨k, rfl⟩ : ∃ m, k = m + 1 := ⟨k - 1, by omega⟩
    have q1 := w_cast j row.length (by omega)
    have q2 : (0 : Int) ≤ (j : Int) := Int.natCast_nonneg j
    have e3 := w_succ j (by omega)
    simp only [impl_VotesOfTable.l2, e3, impl_in_, bt_abcd (i : Int) (by omega) (by omega), m2]
    rw [if_pos q1, if_pos q2, if_pos q1]
    simp only [Option.bind_some]
    by_cases c1 : 1 ≤ rd row (j : Int) ∧ rd row (j : Int) ≤ (n : Int)
    · obtain ⟨e1, s1, s2, hp, s3⟩ := w_sub1 (rd row (j : Int)) n o.length hn h3.1 c1
      rw [decide_eq_true c1, if_pos (Eq.refl true), if_pos c1, e1, if_pos s1, if_pos s2]
      by_cases c2 : rd o (rd row (j : Int) - 1) = 0
      · rw [if_pos c2, if_pos c2]
        have h0 : o[(rd row (j : Int) - 1).toNat] = 0 := by
          have := rd_nat o (rd row (j : Int) - 1).toNat hp
          rw [s3] at this
          rw [← this]; exact c2
        have f := ih (j + 1) k (t + 1) (o.set (rd row (j : Int) - 1).toNat (97 + (i : Int))) (by omega) (by omega) (inv_set h3 _ hp h0 _ ⟨letter_lo i, letter_hi i hi⟩) (by omega)
        by_cases c3 : 0 < j
        · obtain ⟨p1, e2, p2, p3⟩ := w_pred j row.length c3 (Int.ofNat_lt.mp q1) hr
          rw [if_pos p1, e2, if_pos p2, if_pos p3]
          by_cases c4 : rd row ((j : Int) - 1) ≥ rd row (j : Int)
          · rw [if_pos c4, if_pos ⟨c3, c4⟩]
          · rw [if_neg c4, if_pos (Int.natCast_nonneg i), if_pos (w_lt4 i hi), if_neg (fun h => c4 h.2)]
            exact f
        · rw [if_neg (w_npos j c3), if_pos (Int.natCast_nonneg i), if_pos (w_lt4 i hi), if_neg (fun h => c3 h.1)]
          exact f
      · rw [if_neg c2, if_neg c2]
    · rw [decide_eq_false c1, if_neg (show ¬ (false = true) by decide), if_neg c1]
theorem impl_l1 (n : Nat) (hn : n ≤ 16) (rows : List (List Int)) (h4 : rows.length = 4) (hr : ∀ j : Nat, (rows.getD j []).length ≤ 16) (hp : pre rows 4 = n) (e : Nat) :
    ∀ (i k : Nat) (o : List Int), i + e = 4 → 100 + 20 * e < k → inv n (pre rows i) o → impl_VotesOfTable.l1 k (n : Int) o rows (rows.length : Int) (i : Int) = some (m1 n rows e i o) := by
  induction e with
  | zero =>
    intro i k o h1 h2 h3
    obtain ⟨k, rfl⟩ : ∃ m, k = m + 1 := ⟨k - 1, by omega⟩
    obtain rfl : i = 4 := by omega
    rw [hp] at h3
    simp only [impl_VotesOfTable.l1, m1]
    rw [if_neg (show ¬ ((4 : Nat) : Int) < (rows.length : Int) by omega)]
    exact impl_end hn h3 k (by omega)
  | succ e ih =>
    intro i k o h1 h2 h3
    obtain ⟨k, rfl⟩ : ∃ m, k = m + 1 := ⟨k - 1, by omega⟩
    have hri := hr i
    simp only [impl_VotesOfTable.l1, rdL1_nat, m1]
    have q1 : (i : Int) < (rows.length : Int) := by omega
    have q2 : (0 : Int) ≤ (i : Int) := by omega
    rw [if_pos q1, if_pos q2, if_pos q1]
    exact impl_l2 n hn rows (rows.getD i []) hri i (by omega) (pre rows (i + 1)) (100 + 20 * e) (fun o => m1 n rows e (i + 1) o) (fun o ho k hk => ih (i + 1) k o (by omega) hk ho) (rows.getD i []).length 0 k (pre rows i) o (by omega) (by omega) h3 rfl
theorem pre_b (L : List (List Int)) : ∀ i : Nat, (∀ j : Nat, j < i → (L.getD j []).length ≤ 16) → pre L i ≤ 16 * i
  | 0, _ => Nat.le_refl _
  | i + 1, h => by have := pre_b L i (fun j hj => h j (by omega)); have := h i (by omega); simp only [pre]; omega
theorem both_l0 (rows : List (List Int)) (h4 : rows.length = 4) (hM : ∀ j : Nat, (rows.getD j []).length ≤ 1048577) (e : Nat) : ∀ (i k : Nat), i + e = 4 → 300 + e < k → (∀ j : Nat, j < i → (rows.getD j []).length ≤ 16) →
    ∃ r : ByteArray × Bool, spec_VotesOfTable.l0 k rows (pre rows i : Int) rows (rows.length : Int) (i : Int) = some r ∧ impl_VotesOfTable.l0 k rows (pre rows i : Int) rows (rows.length : Int) (i : Int) = some r := by
  induction e with
  | zero =>
    intro i k h1 h2 h3
    obtain ⟨k, rfl⟩ : ∃ m, k = m + 1 := ⟨k - 1, by omega⟩
    obtain rfl : i = 4 := by omega
    have hr : ∀ j : Nat, (rows.getD j []).length ≤ 16 := by
      intro j
      by_cases hj : j < 4
      · exact h3 j hj
      · rw [List.getD_eq_getElem?_getD, List.getElem?_eq_none (by omega)]; simp
    simp only [spec_VotesOfTable.l0, impl_VotesOfTable.l0]
    have q1 : ¬ ((4 : Nat) : Int) < (rows.length : Int) := by omega
    rw [if_neg q1, if_neg q1]
    by_cases c : (pre rows 4 : Int) > 16
    · rw [if_pos c, if_pos c]; exact ⟨_, rfl, rfl⟩
    · have q2 : (0 : Int) ≤ (pre rows 4 : Int) := by omega
      have q3 : ((pre rows 4 : Int) : Int).toNat ≤ 281474976710656 := by omega
      rw [if_neg c, if_neg c, if_pos q2, if_pos q3, if_pos q2, if_pos q3, show ((pre rows 4 : Int) : Int).toNat = pre rows 4 from Int.toNat_natCast _]
      have hz : inv (pre rows 4) (pre rows 0) (List.replicate (pre rows 4) 0) := inv_zero _
      exact ⟨m1 (pre rows 4) rows 4 0 (List.replicate (pre rows 4) 0), spec_l1 (pre rows 4) (by omega) rows h4 hr rfl 4 0 k _ (by omega) (by omega) hz, impl_l1 (pre rows 4) (by omega) rows h4 hr rfl 4 0 k _ (by omega) (by omega) hz⟩
  | succ e ih =>
    intro i k h1 h2 h3
    obtain ⟨k, rfl⟩ : ∃ m, k = m + 1 := ⟨k - 1, by omega⟩
    have e3 : wrap64 ((i : Int) + 1) = ((i + 1 : Nat) : Int) := by rw [w64 (by omega) (by omega)]; omega
    have b1 := pre_b rows i h3
    have b2 := hM i
    have e4 : wrap64 ((pre rows i : Int) + ((rows.getD i []).length : Int)) = (pre rows (i + 1) : Int) := by
      rw [w64 (by omega) (by omega)]; simp only [pre]; omega
    simp only [spec_VotesOfTable.l0, impl_VotesOfTable.l0, rdL1_nat, e3, e4]
    have q1 : (i : Int) < (rows.length : Int) := by omega
    have q2 : (0 : Int) ≤ (i : Int) := by omega
    rw [if_pos q1, if_pos q2, if_pos q1, if_pos q1, if_pos q2, if_pos q1]
    by_cases c : ((rows.getD i []).length : Int) > 16
    · rw [if_pos c, if_pos c]; exact ⟨_, rfl, rfl⟩
    · rw [if_neg c, if_neg c]
      refine ih (i + 1) k (by omega) (by omega) (fun j hj => ?_)
      by_cases ej : j = i
      · subst ej; omega
      · exact h3 j (by omega)
theorem both (rows : List (List Int)) (hM : ∀ j : Nat, (rows.getD j []).length ≤ 1048577) (k : Nat) (hk : 400 < k) : ∃ r : ByteArray × Bool, spec_VotesOfTable.f k rows = some r ∧ impl_VotesOfTable.f k rows = some r := by
  unfold spec_VotesOfTable.f impl_VotesOfTable.f
  by_cases h4 : rows.length = 4
  · rw [if_pos (by omega), if_pos (by omega)]
    exact both_l0 rows h4 hM 4 0 k (by omega) (by omega) (fun j hj => by omega)
  · rw [if_neg (by omega), if_neg (by omega)]
    exact ⟨_, rfl, rfl⟩
theorem FnExactVotesOfTable : laws_FnExactVotesOfTable.Pure := by
  intro L hl hs hw
  have hb : ∀ j : Nat, (L.getD j []).length * 8 ≤ 140737488351232 := by
    intro j
    rw [List.getD_eq_getElem?_getD]
    cases e : L[j]? with
    | none => simp
    | some r => exact hs r (List.mem_of_getElem? e)
  obtain ⟨K, hK1, hK2⟩ : ∃ K : Nat, 4000000 ≤ K ∧ L.length ≤ K := ⟨L.length + 4000000, Nat.le_add_left _ _, Nat.le_add_right _ _⟩
  refine ⟨K + 1, ?_⟩
  unfold laws_FnExactVotesOfTable.f
  obtain ⟨t, t1, t2⟩ := sz_eq L hl hb (K + 1) (by omega)
  rw [t1]
  simp only [Option.bind_some]
  by_cases c : t < 0
  · rw [if_pos c]
  · rw [if_neg c]
    obtain ⟨hL, hr⟩ := t2.resolve_left c
    rw [toISS_eq L hL hr _ (by omega)]
    simp only [Option.bind_some]
    obtain ⟨r, r1, r2⟩ := both L hr (K + 1) (by omega)
    rw [r1]
    simp only [Option.bind_some]
    rw [r2]
    simp only [Option.bind_some, if_true]
    rw [show (r.2 != r.2) = false by cases r.2 <;> rfl]
    simp only [laws_FnExactVotesOfTable.j0, Bool.false_eq_true, if_false]
    rw [toISS_eq L hL hr _ (by omega)]
    simp only [Option.bind_some]
    rw [eqSSb_self L hL hr _ (by omega)]
    simp

end Go.Proofs.YtfjpejdlgmlmhaaDoor.PuqFnExactVotesOfTable
namespace Go.Proofs.YtfjpejdlgmlmhaaDoor.Pure
open Go.Proofs.YtfjpejdlgmlmhaaDoor.QFnExactVotesOfTable
theorem FnExactVotesOfTable : laws_FnExactVotesOfTable.Pure := Go.Proofs.YtfjpejdlgmlmhaaDoor.PuqFnExactVotesOfTable.FnExactVotesOfTable
end Go.Proofs.YtfjpejdlgmlmhaaDoor.Pure
