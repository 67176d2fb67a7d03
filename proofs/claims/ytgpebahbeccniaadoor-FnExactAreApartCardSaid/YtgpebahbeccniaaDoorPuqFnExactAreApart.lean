/- The program's AreApart returns what the reference's returns, for all arguments (no condition). -/
import Derived.Test.YtgpebahbeccniaaDoorQFnExactAreApartw
import Derived.Test.YtgpebahbeccniaaDoorZpl
namespace Go.Proofs.YtgpebahbeccniaaDoor.PuqFnExactAreApart
open Go.RowKit Go.Proofs.YtgpebahbeccniaaDoor.QFnExactAreApart Go.Proofs.YtgpebahbeccniaaDoorW.PrintWords Go.Proofs.YtgpebahbeccniaaDoorW.PrintLast Go.Proofs.YtgpebahbeccniaaDoorPl
set_option linter.unusedVariables false

theorem up {α : Type} (F : Nat → Option α) (hm : ∀ k, LeO (F k) (F (k + 1))) {k0 : Nat} {r : α} (h : F k0 = some r) : ∀ d, F (k0 + d) = some r
  | 0 => h
  | d + 1 => hm _ _ (up F hm h d)
theorem up' {α : Type} (F : Nat → Option α) (hm : ∀ k, LeO (F k) (F (k + 1))) {k0 : Nat} {r : α} (h : F k0 = some r) (k : Nat) (hk : k0 ≤ k) : F k = some r := by
  obtain ⟨d, rfl⟩ : ∃ d, k = k0 + d := ⟨k - k0, by omega⟩
  exact up F hm h d

/-! ### From some number of rounds on -/
def Ev {α : Type} (F : Nat → Option α) (r : α) : Prop := ∃ k0, ∀ k, k0 ≤ k → F k = some r
theorem find_loop {ρ : Type} (l : Nat → Int → Option ρ) (n : Nat) (p : Nat → Bool) (hit : Nat → ρ) (fin : ρ) (hs : ∀ i : Nat, i < n → ∃ k0, ∀ k, k0 ≤ k → l (k + 1) (i : Int) = if p i = true then some (hit i) else l k ((i + 1 : Nat) : Int)) (he : ∃ k0, ∀ k, k0 ≤ k → l (k + 1) (n : Int) = some fin) :
    ∀ d i : Nat, i + d = n → ∃ r, Ev (fun k => l k (i : Int)) r ∧ ((∃ j : Nat, i ≤ j ∧ j < n ∧ p j = true ∧ r = hit j) ∨ ((∀ j : Nat, i ≤ j → j < n → p j = false) ∧ r = fin)) := by
  intro d
  induction d with
  | zero =>
    intro i hi
    obtain rfl : i = n := by omega
    obtain ⟨k0, hk⟩ := he
    exact ⟨fin, ⟨k0 + 1, fun k h => by obtain ⟨k, rfl⟩ : ∃ m, k = m + 1 := ⟨k - 1, by omega⟩; exact hk k (by omega)⟩, .inr ⟨fun j h1 h2 => by omega, rfl⟩⟩
  | succ d ih =>
    intro i hi
    obtain ⟨k0, hk⟩ := hs i (by omega)
    obtain ⟨r, ⟨k1, h1⟩, h2⟩ := ih (i + 1) (by omega)
    by_cases hp : p i = true
    · exact ⟨hit i, ⟨k0 + 1, fun k h => by obtain ⟨k, rfl⟩ : ∃ m, k = m + 1 := ⟨k - 1, by omega⟩; show l (k + 1) (i : Int) = _; rw [hk k (by omega), if_pos hp]⟩, .inl ⟨i, Nat.le_refl _, by omega, hp, rfl⟩⟩
    · refine ⟨r, ⟨k0 + k1 + 1, fun k h => by obtain ⟨k, rfl⟩ : ∃ m, k = m + 1 := ⟨k - 1, by omega⟩; show l (k + 1) (i : Int) = _; rw [hk k (by omega), if_neg hp]; exact h1 k (by omega)⟩, ?_⟩
      rcases h2 with ⟨j, q1, q2, q3, q4⟩ | ⟨q1, q2⟩
      · exact .inl ⟨j, by omega, q2, q3, q4⟩
      · refine .inr ⟨fun j g1 g2 => ?_, q2⟩
        by_cases e : j = i
        · subst e; exact Bool.eq_false_iff.mpr hp
        · exact q1 j (by omega) g2
theorem n_lt {a b : Nat} (h : a < b) : (a : Int) < (b : Int) := by omega
theorem n_nlt {a b : Nat} (h : ¬ a < b) : ¬ (a : Int) < (b : Int) := by omega
theorem n_suc (a : Nat) (h : a ≤ 2000000) : wrap64 ((a : Int) + 1) = ((a + 1 : Nat) : Int) := by rw [w64 (by omega) (by omega)]; omega

/-! ### Ways -/
def okc (x y : Int) : Bool := decide (0 ≤ x ∧ x ≤ 12) && decide (0 ≤ y ∧ y ≤ 12)
theorem okc_iff (x y : Int) : okc x y = true ↔ (0 ≤ x ∧ x ≤ 12) ∧ 0 ≤ y ∧ y ≤ 12 := by
  unfold okc; rw [Bool.and_eq_true, decide_eq_true_eq, decide_eq_true_eq]
/-- The cell behind i steps. -/
def pos (x y : Int) (s : ByteArray) : Nat → S51
  | 0 => ⟨x, y⟩
  | i + 1 => if bt s (i : Int) = 69 then ⟨(pos x y s i).f0 + 1, (pos x y s i).f1⟩ else ⟨(pos x y s i).f0, (pos x y s i).f1 + 1⟩
def cs (x y : Int) (s : ByteArray) (n : Nat) : List S51 := (List.range (n + 1)).map (pos x y s)
theorem cs_len (x y : Int) (s : ByteArray) (n : Nat) : (cs x y s n).length = n + 1 := by simp [cs]
theorem cs_succ (x y : Int) (s : ByteArray) (n : Nat) : cs x y s (n + 1) = cs x y s n ++ [pos x y s (n + 1)] := by
  unfold cs; rw [List.range_succ, List.map_append]; rfl
theorem rd_cs (x y : Int) (s : ByteArray) (n i : Nat) (h : i ≤ n) : rd_T51 (cs x y s n) (i : Int) = pos x y s i := by
  unfold rd_T51 cs; rw [Int.toNat_natCast, List.getD_eq_getElem?_getD, List.getElem?_map, List.getElem?_range (by omega)]; rfl
theorem pos_b (x y : Int) (s : ByteArray) : ∀ i : Nat, x ≤ (pos x y s i).f0 ∧ (pos x y s i).f0 ≤ x + i ∧ y ≤ (pos x y s i).f1 ∧ (pos x y s i).f1 ≤ y + i
  | 0 => by simp [pos]
  | i + 1 => by
    have := pos_b x y s i
    unfold pos
    split <;> simp only <;> omega
theorem pos_mono (x y : Int) (s : ByteArray) (i : Nat) : ∀ d : Nat, (pos x y s i).f0 ≤ (pos x y s (i + d)).f0 ∧ (pos x y s i).f1 ≤ (pos x y s (i + d)).f1
  | 0 => ⟨Int.le_refl _, Int.le_refl _⟩
  | d + 1 => by
    have := pos_mono x y s i d
    have e : pos x y s (i + (d + 1)) = if bt s ((i + d : Nat) : Int) = 69 then ⟨(pos x y s (i + d)).f0 + 1, (pos x y s (i + d)).f1⟩ else ⟨(pos x y s (i + d)).f0, (pos x y s (i + d)).f1 + 1⟩ := rfl
    rw [e]
    split <;> simp only <;> omega
def stepOK (x y : Int) (s : ByteArray) (i : Nat) : Bool := (decide (bt s (i : Int) = 69) || decide (bt s (i : Int) = 78)) && okc (pos x y s (i + 1)).f0 (pos x y s (i + 1)).f1
def bytesOK (s : ByteArray) : Bool := s.data.toList.all fun b => b == 69 || b == 78
theorem bytesOK_iff (s : ByteArray) : bytesOK s = true ↔ ∀ i : Nat, i < s.size → bt s (i : Int) = 69 ∨ bt s (i : Int) = 78 := by
  unfold bytesOK
  rw [List.all_eq_true]
  constructor
  · intro h i hi
    have := h (s[i]'hi) (by rw [show s[i]'hi = s.data.toList[i]'(by simpa using hi) from rfl]; exact List.getElem_mem _)
    unfold bt; rw [dif_pos (by simpa using hi)]
    simp only [Bool.or_eq_true, beq_iff_eq] at this
    simp only [Int.toNat_natCast]
    rcases this with h1 | h1
    · left; rw [h1]; rfl
    · right; rw [h1]; rfl
  · intro h b hb
    obtain ⟨i, hi, rfl⟩ := List.mem_iff_getElem.mp hb
    have hi' : i < s.size := by simpa using hi
    have h1 := h i hi'
    unfold bt at h1; rw [dif_pos (by simpa using hi')] at h1
    simp only [Int.toNat_natCast] at h1
    have h2 : s[i]'hi' = s.data.toList[i]'hi := rfl
    rw [h2] at h1
    simp only [Bool.or_eq_true, beq_iff_eq]
    rcases h1 with h1 | h1
    · left; exact UInt8.toNat_inj.mp (by have : ((s.data.toList[i]'hi).toNat : Int) = 69 := h1; show _ = 69; omega)
    · right; exact UInt8.toNat_inj.mp (by have : ((s.data.toList[i]'hi).toNat : Int) = 78 := h1; show _ = 78; omega)
/-- Is it a way? -/
def gd (x y : Int) (s : ByteArray) : Bool := okc x y && (decide (s.size ≤ 24) && (bytesOK s && okc (pos x y s s.size).f0 (pos x y s s.size).f1))
theorem gd_iff (x y : Int) (s : ByteArray) : gd x y s = true ↔ okc x y = true ∧ s.size ≤ 24 ∧ ∀ i : Nat, i < s.size → stepOK x y s i = true := by
  unfold gd
  rw [Bool.and_eq_true, Bool.and_eq_true, Bool.and_eq_true, decide_eq_true_eq, bytesOK_iff]
  constructor
  · rintro ⟨h1, h2, h3, h4⟩
    refine ⟨h1, h2, fun i hi => ?_⟩
    unfold stepOK
    rw [Bool.and_eq_true, Bool.or_eq_true, decide_eq_true_eq, decide_eq_true_eq, okc_iff]
    rw [okc_iff] at h1 h4
    refine ⟨h3 i hi, ?_⟩
    have q1 := pos_b x y s (i + 1)
    have q2 := pos_mono x y s (i + 1) (s.size - (i + 1))
    rw [show i + 1 + (s.size - (i + 1)) = s.size by omega] at q2
    omega
  · rintro ⟨h1, h2, h3⟩
    refine ⟨h1, h2, fun i hi => ?_, ?_⟩
    · have := h3 i hi
      unfold stepOK at this
      rw [Bool.and_eq_true, Bool.or_eq_true, decide_eq_true_eq, decide_eq_true_eq] at this
      exact this.1
    · cases hn : s.size with
      | zero => exact h1
      | succ n =>
        have := h3 n (by omega)
        unfold stepOK at this
        rw [Bool.and_eq_true] at this
        exact this.2
theorem in_eq (a b c : Int) : spec_l1In.f a b c = some (decide (b ≤ a ∧ a ≤ c)) := by
  unfold spec_l1In.f
  by_cases h : a ≥ b
  · rw [if_pos h]; congr 1; exact Bool.eq_iff_iff.mpr (by rw [decide_eq_true_eq, decide_eq_true_eq]; omega)
  · rw [if_neg h]; congr 1; exact (decide_eq_false (by omega)).symm
theorem in_eq' (a b c : Int) : impl_in.f a b c = some (decide (b ≤ a ∧ a ≤ c)) := by
  unfold impl_in.f
  by_cases h : b ≤ a
  · rw [if_pos h]; congr 1; exact Bool.eq_iff_iff.mpr (by rw [decide_eq_true_eq, decide_eq_true_eq]; omega)
  · rw [if_neg h]; congr 1; exact (decide_eq_false (by omega)).symm
theorem ncCell_eq (x y : Int) : spec_ncCell.f x y = some (okc x y) := by
  unfold spec_ncCell.f okc
  rw [in_eq, in_eq]
  simp only [Option.bind_some]
  by_cases h : 0 ≤ x ∧ x ≤ 12
  · rw [decide_eq_true h, if_pos rfl, Bool.true_and]
  · rw [decide_eq_false h, if_neg (by decide), Bool.false_and]
theorem IsCell_eq (x y : Int) : impl_IsCell.f x y = some (okc x y) := by
  unfold impl_IsCell.f okc
  rw [in_eq', in_eq']
  simp only [Option.bind_some]
  by_cases h : 0 ≤ x ∧ x ≤ 12
  · rw [decide_eq_true h, if_pos rfl, Bool.true_and]
  · rw [decide_eq_false h, if_neg (by decide), Bool.false_and]
theorem ncCells_l (x y : Int) (s : ByteArray) (hx : okc x y = true) (hn : s.size ≤ 24) (d : Nat) : ∀ (i k : Nat), i + d = s.size → d < k →
    spec_ncCells.l0 k (cs x y s i) (i : Int) x y s (pos x y s i).f0 (pos x y s i).f1 = if (List.range' i d).all (stepOK x y s) = true then some (cs x y s s.size, true) else some ([], false) := by
  rw [okc_iff] at hx
  induction d with
  | zero =>
    intro i k h1 h2
    obtain ⟨k, rfl⟩ : ∃ m, k = m + 1 := ⟨k - 1, by omega⟩
    obtain rfl : i = s.size := by omega
    simp only [spec_ncCells.l0]
    rw [if_neg (n_nlt (Nat.lt_irrefl _))]
    rfl
  | succ d ih =>
    intro i k h1 h2
    obtain ⟨k, rfl⟩ : ∃ m, k = m + 1 := ⟨k - 1, by omega⟩
    have pb := pos_b x y s i
    have ih' := ih (i + 1) k (by omega) (by omega)
    have hlen : (cs x y s i).length < 8796093022208 := by rw [cs_len]; omega
    have w0 : wrap64 ((pos x y s i).f0 + 1) = (pos x y s i).f0 + 1 := w64 (by omega) (by omega)
    have w1 : wrap64 ((pos x y s i).f1 + 1) = (pos x y s i).f1 + 1 := w64 (by omega) (by omega)
    simp only [spec_ncCells.l0, ncCell_eq, w0, w1, n_suc i (by omega), Option.bind_some]
    rw [if_pos (n_lt (show i < s.size by omega)), if_pos (Int.natCast_nonneg i), List.range'_succ, List.all_cons]
    have hso : stepOK x y s i = ((decide (bt s (i : Int) = 69) || decide (bt s (i : Int) = 78)) && okc (pos x y s (i + 1)).f0 (pos x y s (i + 1)).f1) := rfl
    by_cases hE : bt s (i : Int) = 69
    · have e1 : pos x y s (i + 1) = ⟨(pos x y s i).f0 + 1, (pos x y s i).f1⟩ := by
        show (if bt s (i : Int) = 69 then _ else _) = _
        rw [if_pos hE]
      rw [cs_succ, e1] at ih'
      rw [if_pos hE, hso, decide_eq_true hE, Bool.true_or, Bool.true_and, e1]
      by_cases ho : okc ((pos x y s i).f0 + 1) (pos x y s i).f1 = true
      · rw [if_pos ho, if_pos hlen, ih']; simp only [ho, Bool.true_and]
      · rw [if_neg ho]; simp only [Bool.eq_false_iff.mpr ho, Bool.false_and, Bool.false_eq_true, if_false]
    · have e1 : pos x y s (i + 1) = ⟨(pos x y s i).f0, (pos x y s i).f1 + 1⟩ := by
        show (if bt s (i : Int) = 69 then _ else _) = _
        rw [if_neg hE]
      rw [cs_succ, e1] at ih'
      rw [if_neg hE, hso, decide_eq_false hE, Bool.false_or, e1]
      by_cases hN : bt s (i : Int) = 78
      · rw [if_pos hN, decide_eq_true hN, Bool.true_and]
        by_cases ho : okc (pos x y s i).f0 ((pos x y s i).f1 + 1) = true
        · rw [if_pos ho, if_pos hlen, ih']; simp only [ho, Bool.true_and]
        · rw [if_neg ho]; simp only [Bool.eq_false_iff.mpr ho, Bool.false_and, Bool.false_eq_true, if_false]
      · rw [if_neg hN, decide_eq_false hN]; simp only [Bool.false_and, Bool.false_eq_true, if_false]
theorem ncCells_eq (x y : Int) (s : ByteArray) (k : Nat) (hk : 40 < k) : spec_ncCells.f k x y s = some (if gd x y s = true then cs x y s s.size else [], gd x y s) := by
  unfold spec_ncCells.f
  rw [ncCell_eq]
  simp only [Option.bind_some]
  obtain ⟨k, rfl⟩ : ∃ m, k = m + 1 := ⟨k - 1, by omega⟩
  by_cases h0 : okc x y = true
  · rw [if_pos h0]
    simp only [spec_ncCells.j0]
    by_cases h1 : s.size ≤ 24
    · rw [if_neg (by rw [decide_eq_true_eq]; omega)]
      have := ncCells_l x y s h0 h1 s.size 0 k (by omega) (by omega)
      rw [show spec_ncCells.l0 k [(⟨x, y⟩ : S51)] 0 x y s x y = _ from this]
      have hall : (List.range' 0 s.size).all (stepOK x y s) = gd x y s := by
        rw [Bool.eq_iff_iff, List.all_eq_true, gd_iff]
        exact ⟨fun ha => ⟨h0, h1, fun i hi => ha i (by rw [List.mem_range'_1]; omega)⟩, fun hg j hj => hg.2.2 j (by rw [List.mem_range'_1] at hj; omega)⟩
      rw [hall]
      cases gd x y s <;> rfl
    · have hg : gd x y s = false := Bool.eq_false_iff.mpr fun hg => h1 ((gd_iff x y s).mp hg).2.1
      rw [if_pos (by rw [decide_eq_true_eq]; omega), hg]; rfl
  · have hg : gd x y s = false := Bool.eq_false_iff.mpr fun hg => h0 ((gd_iff x y s).mp hg).1
    rw [if_neg h0]
    simp only [spec_ncCells.j0]
    rw [hg]; rfl
theorem specWay_eq (x y : Int) (s : ByteArray) (k : Nat) (hk : 40 < k) : spec_IsWay.f k x y s = some (gd x y s) := by
  unfold spec_IsWay.f
  rw [ncCells_eq x y s k hk]; rfl
theorem cells_l (x y : Int) (s : ByteArray) (hx : okc x y = true) (hn : s.size ≤ 24) (d : Nat) : ∀ (i k : Nat), i + d = s.size → d < k → impl_Way_cells.l0 k (cs x y s i) (s.size : Int) (i : Int) x y s = some (cs x y s s.size) := by
  rw [okc_iff] at hx
  induction d with
  | zero =>
    intro i k h1 h2
    obtain ⟨k, rfl⟩ : ∃ m, k = m + 1 := ⟨k - 1, by omega⟩
    obtain rfl : i = s.size := by omega
    simp only [impl_Way_cells.l0]
    rw [if_neg (n_nlt (Nat.lt_irrefl _))]
  | succ d ih =>
    intro i k h1 h2
    obtain ⟨k, rfl⟩ : ∃ m, k = m + 1 := ⟨k - 1, by omega⟩
    have pb := pos_b x y s i
    have ih' := ih (i + 1) k (by omega) (by omega)
    have hlen : (cs x y s i).length < 8796093022208 := by rw [cs_len]; omega
    have hl2 : (i : Int) < ((cs x y s i).length : Int) := by rw [cs_len]; omega
    have w0 : wrap64 ((pos x y s i).f0 + 1) = (pos x y s i).f0 + 1 := w64 (by omega) (by omega)
    have w1 : wrap64 ((pos x y s i).f1 + 1) = (pos x y s i).f1 + 1 := w64 (by omega) (by omega)
    have hnx : impl_Cell_next.f (pos x y s i).f0 (pos x y s i).f1 (bt s (i : Int)) = some ((pos x y s (i + 1)).f0, (pos x y s (i + 1)).f1) := by
      unfold impl_Cell_next.f
      rw [w0, w1]
      show _ = some ((if bt s (i : Int) = 69 then (⟨(pos x y s i).f0 + 1, (pos x y s i).f1⟩ : S51) else ⟨(pos x y s i).f0, (pos x y s i).f1 + 1⟩).f0, (if bt s (i : Int) = 69 then (⟨(pos x y s i).f0 + 1, (pos x y s i).f1⟩ : S51) else ⟨(pos x y s i).f0, (pos x y s i).f1 + 1⟩).f1)
      split <;> rfl
    simp only [impl_Way_cells.l0, rd_cs x y s i i (Nat.le_refl _), hnx, n_suc i (by omega), Option.bind_some]
    rw [if_pos (n_lt (show i < s.size by omega)), if_pos (Int.natCast_nonneg i), if_pos hl2, if_pos (n_lt (show i < s.size by omega)), if_pos hlen]
    rw [cs_succ] at ih'
    exact ih'
theorem cells_eq (x y : Int) (s : ByteArray) (hx : okc x y = true) (hn : s.size ≤ 24) (k : Nat) (hk : 40 < k) : impl_Way_cells.f k x y s = some (cs x y s s.size) :=
  cells_l x y s hx hn s.size 0 k (by omega) (by omega)
theorem isMade_eq (s : ByteArray) (hs : s.size ≤ 140737488351232) : impl_isMade.f s (⟨#[69, 78]⟩ : ByteArray) = some (bytesOK s) := by
  unfold impl_isMade.f strings_Trim.f
  rw [if_pos (by omega), if_pos (by decide), if_pos (by decide)]
  simp only [Option.bind_some, Option.some.injEq]
  rw [trim_eq]
  unfold bytesOK
  congr 1
  funext b
  rw [Bool.eq_iff_iff]
  simp
theorem implWay_eq (x y : Int) (s : ByteArray) (k : Nat) (hk : 40 < k) : impl_IsWay.f k x y s = some (gd x y s) := by
  unfold impl_IsWay.f gd
  rw [IsCell_eq]
  simp only [Option.bind_some]
  by_cases h0 : okc x y = true
  · rw [if_pos h0, h0, Bool.true_and]
    by_cases h1 : s.size ≤ 24
    · rw [if_pos (by omega), isMade_eq s (by omega), decide_eq_true h1, Bool.true_and]
      simp only [Option.bind_some]
      by_cases h2 : bytesOK s = true
      · rw [if_pos h2, h2, Bool.true_and, cells_eq x y s h0 h1 k hk]
        simp only [Option.bind_some]
        rw [if_pos (Int.natCast_nonneg _), if_pos (by rw [cs_len]; omega), rd_cs x y s _ _ (Nat.le_refl _), IsCell_eq]
        rfl
      · rw [if_neg h2, Bool.eq_false_iff.mpr h2, Bool.false_and]
    · rw [if_neg (by omega), decide_eq_false h1, Bool.false_and]
  · rw [if_neg h0, Bool.eq_false_iff.mpr h0, Bool.false_and]
def same (c d : S51) : Bool := c.f0 == d.f0 && (c.f1 == d.f1)
/-- Do two ways meet? -/
def meets (v w : S53) : Bool := (cs v.f0.f0 v.f0.f1 v.f1 v.f1.size).any fun c => (cs w.f0.f0 w.f0.f1 w.f1 w.f1.size).any fun d => same c d
theorem rd51 (xs : List S51) (i : Nat) : rd_T51 xs (i : Int) = xs.getD i z51 := by unfold rd_T51; rw [Int.toNat_natCast]
theorem rd53 (xs : List S53) (i : Nat) : rd_T53 xs (i : Int) = xs.getD i z53 := by unfold rd_T53; rw [Int.toNat_natCast]
theorem any_iff {α : Type} (xs : List α) (z : α) (p : α → Bool) : xs.any p = true ↔ ∃ j : Nat, j < xs.length ∧ p (xs.getD j z) = true := by
  rw [List.any_eq_true]
  constructor
  · rintro ⟨x, hx, hp⟩
    obtain ⟨j, hj, rfl⟩ := List.mem_iff_getElem.mp hx
    exact ⟨j, hj, by rw [List.getD_eq_getElem?_getD, List.getElem?_eq_getElem hj]; exact hp⟩
  · rintro ⟨j, hj, hp⟩
    rw [List.getD_eq_getElem?_getD, List.getElem?_eq_getElem hj] at hp
    exact ⟨_, List.getElem_mem hj, hp⟩
theorem any_false {α : Type} (xs : List α) (z : α) (p : α → Bool) (h : ∀ j : Nat, 0 ≤ j → j < xs.length → p (xs.getD j z) = false) : xs.any p = false := by
  rw [Bool.eq_false_iff]
  intro ha
  obtain ⟨j, hj, hp⟩ := (any_iff xs z p).mp ha
  rw [h j (Nat.zero_le _) hj] at hp
  cases hp
/-- The spec's search. -/
theorem ncMeet_l1 (V W : List S51) (hW : W.length ≤ 1000) (hV : V.length ≤ 1000) (i : Nat) (hi : i < V.length) (r : Int × Int × Bool) (hn : Ev (fun k => spec_ncMeet.l0 k W V (V.length : Int) ((i + 1 : Nat) : Int)) r) :
    ∃ r', Ev (fun k => spec_ncMeet.l1 k W (i : Int) V (V.length : Int) (i : Int) W (W.length : Int) 0 (V.getD i z51).f0 (V.getD i z51).f1) r' ∧ r'.2.2 = if W.any (same (V.getD i z51)) = true then true else r.2.2 := by
  obtain ⟨k0, hk0⟩ := hn
  obtain ⟨r', h1, h2⟩ := find_loop (fun k j => spec_ncMeet.l1 k W (i : Int) V (V.length : Int) (i : Int) W (W.length : Int) j (V.getD i z51).f0 (V.getD i z51).f1) W.length (fun j => same (V.getD i z51) (W.getD j z51)) (fun j => ((i : Int), (j : Int), true)) r
    (fun j hj => ⟨0, fun k _ => by
      simp only [spec_ncMeet.l1, rd51, n_suc j (by omega)]
      rw [if_pos (n_lt hj), if_pos (Int.natCast_nonneg j), if_pos (n_lt hj)]; rfl⟩)
    ⟨k0, fun k hk => by
      simp only [spec_ncMeet.l1, n_suc i (by omega)]
      rw [if_neg (n_nlt (Nat.lt_irrefl _))]
      exact hk0 k hk⟩ W.length 0 (by omega)
  refine ⟨r', h1, ?_⟩
  rcases h2 with ⟨j, _, q2, q3, rfl⟩ | ⟨q1, rfl⟩
  · rw [if_pos ((any_iff W z51 _).mpr ⟨j, q2, q3⟩)]
  · rw [any_false W z51 _ q1]; rfl
theorem ncMeet_l0 (V W : List S51) (hW : W.length ≤ 1000) (hV : V.length ≤ 1000) (d : Nat) : ∀ i : Nat, i + d = V.length → ∃ r, Ev (fun k => spec_ncMeet.l0 k W V (V.length : Int) (i : Int)) r ∧ r.2.2 = (V.drop i).any fun c => W.any (same c) := by
  induction d with
  | zero =>
    intro i hi
    obtain rfl : i = V.length := by omega
    exact ⟨(0, 0, false), ⟨1, fun k hk => by
      obtain ⟨k, rfl⟩ : ∃ m, k = m + 1 := ⟨k - 1, by omega⟩
      simp only [spec_ncMeet.l0]
      rw [if_neg (n_nlt (Nat.lt_irrefl _))]⟩, by rw [List.drop_length]; rfl⟩
  | succ d ih =>
    intro i hi
    have hlt : i < V.length := by omega
    obtain ⟨r, h1, h2⟩ := ih (i + 1) (by omega)
    obtain ⟨r', ⟨k0, h3⟩, h4⟩ := ncMeet_l1 V W hW hV i hlt r h1
    refine ⟨r', ⟨k0 + 1, fun k hk => ?_⟩, ?_⟩
    · obtain ⟨k, rfl⟩ : ∃ m, k = m + 1 := ⟨k - 1, by omega⟩
      simp only [spec_ncMeet.l0, rd51]
      rw [if_pos (n_lt hlt), if_pos (Int.natCast_nonneg i), if_pos (n_lt hlt)]
      exact h3 k (by omega)
    · rw [h4, h2, List.drop_eq_getElem_cons hlt, List.any_cons, List.getD_eq_getElem?_getD, List.getElem?_eq_getElem hlt]
      show (if W.any (same V[i]) = true then true else _) = _
      cases W.any (same V[i]) <;> rfl
theorem ncMeet_eq (v w : S53) (hv : gd v.f0.f0 v.f0.f1 v.f1 = true) (hw : gd w.f0.f0 w.f0.f1 w.f1 = true) : ∃ r, Ev (fun k => spec_ncMeet.f k v.f0.f0 v.f0.f1 v.f1 w.f0.f0 w.f0.f1 w.f1) r ∧ r.2.2 = meets v w := by
  have s1 := ((gd_iff _ _ _).mp hv).2.1
  have s2 := ((gd_iff _ _ _).mp hw).2.1
  obtain ⟨r, ⟨k0, h1⟩, h2⟩ := ncMeet_l0 (cs v.f0.f0 v.f0.f1 v.f1 v.f1.size) (cs w.f0.f0 w.f0.f1 w.f1 w.f1.size) (by rw [cs_len]; omega) (by rw [cs_len]; omega) (v.f1.size + 1) 0 (by rw [cs_len]; omega)
  refine ⟨r, ⟨k0 + 50, fun k hk => ?_⟩, by rw [h2, List.drop_zero]; rfl⟩
  show spec_ncMeet.f k _ _ _ _ _ _ = _
  unfold spec_ncMeet.f
  rw [ncCells_eq _ _ _ k (by omega), ncCells_eq _ _ _ k (by omega), if_pos hv, if_pos hw]
  exact h1 k (by omega)
/-- The program's search. -/
theorem index_eq (W : List S51) (hW : W.length ≤ 1000) (c : S51) : ∃ r, Ev (fun k => impl_Cell.f k W c.f0 c.f1) r ∧ decide (r ≥ 0) = W.any (same c) := by
  obtain ⟨r, h1, h2⟩ := find_loop (fun k j => impl_Cell.l0 k W (W.length : Int) j c.f0 c.f1) W.length (fun j => same c (W.getD j z51)) (fun j => (j : Int)) (-1)
    (fun j hj => ⟨0, fun k _ => by
      simp only [impl_Cell.l0, rd51, n_suc j (by omega)]
      rw [if_pos (n_lt hj), if_pos (Int.natCast_nonneg j), if_pos (n_lt hj)]; rfl⟩)
    ⟨0, fun k hk => by
      simp only [impl_Cell.l0]
      rw [if_neg (n_nlt (Nat.lt_irrefl _))]⟩ W.length 0 (by omega)
  refine ⟨r, h1, ?_⟩
  rcases h2 with ⟨j, _, q2, q3, rfl⟩ | ⟨q1, rfl⟩
  · rw [(any_iff W z51 _).mpr ⟨j, q2, q3⟩, decide_eq_true (Int.natCast_nonneg j)]
  · rw [any_false W z51 _ q1]; decide
theorem meeting_l (V W : List S51) (hW : W.length ≤ 1000) (hV : V.length ≤ 1000) : ∃ r, Ev (fun k => impl_meeting.l0 k W V (V.length : Int) 0) r ∧ decide (r.1 ≥ 0) = V.any fun c => W.any (same c) := by
  obtain ⟨r, h1, h2⟩ := find_loop (fun k j => (impl_meeting.l0 k W V (V.length : Int) j).map (fun r => r.1)) V.length (fun j => W.any (same (V.getD j z51))) (fun j => (j : Int)) (-1)
    (fun j hj => by
      obtain ⟨t, ⟨k0, h3⟩, h4⟩ := index_eq W hW (V.getD j z51)
      refine ⟨k0, fun k hk => ?_⟩
      simp only [impl_meeting.l0, rd51, n_suc j (by omega)]
      rw [if_pos (n_lt hj), if_pos (Int.natCast_nonneg j), if_pos (n_lt hj), show impl_Cell.f k W _ _ = some t from h3 k hk]
      simp only [Option.bind_some]
      by_cases c : t ≥ 0
      · rw [if_pos c, if_pos (by rw [← h4]; exact decide_eq_true c)]; rfl
      · rw [if_neg c, if_neg (by rw [← h4, decide_eq_false c]; decide)])
    ⟨0, fun k hk => by
      simp only [impl_meeting.l0]
      rw [if_neg (n_nlt (Nat.lt_irrefl _))]; rfl⟩ V.length 0 (by omega)
  obtain ⟨k0, h1⟩ := h1
  have hm : ∀ k, k0 ≤ k → ∃ r2, impl_meeting.l0 k W V (V.length : Int) 0 = some (r, r2) := fun k hk => by
    have := h1 k hk
    obtain ⟨⟨x, y⟩, e1, e2⟩ := Option.map_eq_some_iff.mp this
    simp only at e2
    subst e2
    exact ⟨y, e1⟩
  obtain ⟨r2, e0⟩ := hm k0 (Nat.le_refl _)
  have hmono := (impl_meeting.mono_l)
  refine ⟨(r, r2), ⟨k0, fun k hk => up' (fun k => impl_meeting.l0 k W V (V.length : Int) 0) (fun k => hmono k _ _ _ _) e0 k hk⟩, ?_⟩
  rcases h2 with ⟨j, _, q2, q3, rfl⟩ | ⟨q1, rfl⟩
  · rw [(any_iff V z51 _).mpr ⟨j, q2, q3⟩]; exact decide_eq_true (Int.natCast_nonneg j)
  · rw [any_false V z51 _ q1]; exact decide_eq_false (show ¬ ((-1 : Int) ≥ 0) by decide)
theorem meeting_eq (v w : S53) (hv : gd v.f0.f0 v.f0.f1 v.f1 = true) (hw : gd w.f0.f0 w.f0.f1 w.f1 = true) : ∃ r, Ev (fun k => impl_meeting.f k v.f0.f0 v.f0.f1 v.f1 w.f0.f0 w.f0.f1 w.f1) r ∧ decide (r.1 ≥ 0) = meets v w := by
  have s1 := (gd_iff _ _ _).mp hv
  have s2 := (gd_iff _ _ _).mp hw
  obtain ⟨r, ⟨k0, h1⟩, h2⟩ := meeting_l (cs v.f0.f0 v.f0.f1 v.f1 v.f1.size) (cs w.f0.f0 w.f0.f1 w.f1 w.f1.size) (by rw [cs_len]; omega) (by rw [cs_len]; omega)
  refine ⟨r, ⟨k0 + 50, fun k hk => ?_⟩, h2⟩
  show impl_meeting.f k _ _ _ _ _ _ = _
  unfold impl_meeting.f
  rw [cells_eq _ _ _ s1.1 s1.2.1 k (by omega), cells_eq _ _ _ s2.1 s2.2.1 k (by omega)]
  exact h1 k (by omega)

/-! ### The law's own functions -/
def conv (x : S49) : S53 := ⟨⟨x.f0.f0, x.f0.f1⟩, x.f1⟩
theorem rd49 (xs : List S49) (i : Nat) : rd_T49 xs (i : Int) = xs.getD i z49 := by unfold rd_T49; rw [Int.toNat_natCast]
theorem szW (l : List S49) (hs : ∀ x ∈ l, x.f1.size ≤ 9223372036854775807) (hl : l.length ≤ 1048576) (d : Nat) : ∀ (i : Nat) (left : Int), i + d = l.length → 0 ≤ left → left ≤ 1048576 →
    ∃ t, Ev (fun k => laws_szWayS.l0 k l left (i : Int)) t ∧ (0 ≤ t → ∀ j : Nat, i ≤ j → j < l.length → (l.getD j z49).f1.size ≤ 1048576) := by
  induction d with
  | zero =>
    intro i left h1 h2 h3
    obtain rfl : i = l.length := by omega
    exact ⟨left, ⟨1, fun k hk => by
      obtain ⟨k, rfl⟩ : ∃ m, k = m + 1 := ⟨k - 1, by omega⟩
      simp only [laws_szWayS.l0]
      rw [if_neg (n_nlt (Nat.lt_irrefl _))]⟩, fun _ j q1 q2 => by omega⟩
  | succ d ih =>
    intro i left h1 h2 h3
    have hlt : i < l.length := by omega
    have hz := hs l[i] (List.getElem_mem hlt)
    have hg : l.getD i z49 = l[i] := by rw [List.getD_eq_getElem?_getD, List.getElem?_eq_getElem hlt]; rfl
    have w0 : wrap64 (left - ((l.getD i z49).f1.size : Int)) = left - ((l.getD i z49).f1.size : Int) := by rw [hg]; exact w64 (by omega) (by omega)
    by_cases c : left - ((l.getD i z49).f1.size : Int) < 0
    · refine ⟨-1, ⟨1, fun k hk => ?_⟩, fun h => by omega⟩
      obtain ⟨k, rfl⟩ : ∃ m, k = m + 1 := ⟨k - 1, by omega⟩
      simp only [laws_szWayS.l0, laws_szWay.f, rd49, w0]
      rw [if_pos (n_lt hlt), if_pos (Int.natCast_nonneg i), if_pos c]
      rfl
    · obtain ⟨t, ⟨k0, h4⟩, h5⟩ := ih (i + 1) (left - ((l.getD i z49).f1.size : Int)) (by omega) (by omega) (by omega)
      refine ⟨t, ⟨k0 + 1, fun k hk => ?_⟩, fun ht j q1 q2 => ?_⟩
      · obtain ⟨k, rfl⟩ : ∃ m, k = m + 1 := ⟨k - 1, by omega⟩
        simp only [laws_szWayS.l0, laws_szWay.f, rd49, w0, n_suc i (by omega)]
        rw [if_pos (n_lt hlt), if_pos (Int.natCast_nonneg i), if_neg c]
        simp only [Option.bind_some]
        rw [if_neg c]
        exact h4 k (by omega)
      · by_cases e : j = i
        · subst e; omega
        · exact h5 ht j (by omega) q2
theorem toW (l : List S49) (hl : l.length ≤ 1048576) (d : Nat) : ∀ (i : Nat) (out : List S53) (k : Nat), i + d = l.length → d < k → out.length = l.length → (∀ j : Nat, j < i → out[j]? = some (conv (l.getD j z49))) → laws_toWayS.l0 k l out (i : Int) = some (l.map conv) := by
  induction d with
  | zero =>
    intro i out k h1 h2 h3 h4
    obtain ⟨k, rfl⟩ : ∃ m, k = m + 1 := ⟨k - 1, by omega⟩
    obtain rfl : i = l.length := by omega
    simp only [laws_toWayS.l0]
    rw [if_neg (n_nlt (Nat.lt_irrefl _))]
    congr 1
    apply List.ext_getElem?
    intro j
    by_cases hj : j < l.length
    · rw [h4 j hj, List.getElem?_map, List.getElem?_eq_getElem hj, List.getD_eq_getElem?_getD, List.getElem?_eq_getElem hj]; rfl
    · rw [List.getElem?_eq_none (by omega), List.getElem?_eq_none (by rw [List.length_map]; omega)]
  | succ d ih =>
    intro i out k h1 h2 h3 h4
    obtain ⟨k, rfl⟩ : ∃ m, k = m + 1 := ⟨k - 1, by omega⟩
    have hlt : i < l.length := by omega
    simp only [laws_toWayS.l0, laws_toWay.f, laws_toCell.f, rd49, n_suc i (by omega), Option.bind_some, Int.toNat_natCast]
    rw [if_pos (n_lt hlt), if_pos (Int.natCast_nonneg i), if_pos (n_lt (by omega))]
    refine ih (i + 1) _ k (by omega) (by omega) (by rw [List.length_set]; exact h3) (fun j hj => ?_)
    by_cases e : j = i
    · subst e
      rw [List.getElem?_set_self (by omega)]; rfl
    · rw [List.getElem?_set_ne (by omega)]
      exact h4 j (by omega)
theorem toW_eq (l : List S49) (hl : l.length ≤ 1048576) (k : Nat) (hk : l.length < k) : laws_toWayS.f k l = some (l.map conv) := by
  unfold laws_toWayS.f
  rw [if_pos (Int.natCast_nonneg _), Int.toNat_natCast, if_pos (by omega)]
  exact toW l hl l.length 0 _ k (by omega) hk (by simp) (fun j hj => by omega)
theorem eqW_refl (l : List S53) (hl : l.length ≤ 1048576) (d : Nat) : ∀ (i k : Nat), i + d = l.length → d < k → laws_eqWayS.l0 k l l (i : Int) = some true := by
  induction d with
  | zero =>
    intro i k h1 h2
    obtain ⟨k, rfl⟩ : ∃ m, k = m + 1 := ⟨k - 1, by omega⟩
    obtain rfl : i = l.length := by omega
    simp only [laws_eqWayS.l0]
    rw [if_neg (n_nlt (Nat.lt_irrefl _))]
  | succ d ih =>
    intro i k h1 h2
    obtain ⟨k, rfl⟩ : ∃ m, k = m + 1 := ⟨k - 1, by omega⟩
    have hlt : i < l.length := by omega
    simp only [laws_eqWayS.l0, laws_eqWay.f, laws_eqCell.f, n_suc i (by omega), if_true, Option.bind_some]
    rw [if_pos (n_lt hlt), if_pos (Int.natCast_nonneg i), if_pos (n_lt hlt)]
    exact ih (i + 1) k (by omega) (by omega)
theorem eqW_eq (l : List S53) (hl : l.length ≤ 1048576) (k : Nat) (hk : l.length < k) : laws_eqWayS.f k l l = some true := by
  unfold laws_eqWayS.f
  rw [if_pos rfl]
  exact eqW_refl l hl l.length 0 k (by omega) hk

/-! ### Both sides -/
def gdw (x : S53) : Bool := gd x.f0.f0 x.f0.f1 x.f1
/-- Does one of the ways meet one ahead of it? -/
def hitAt (L : List S53) (i : Nat) : Bool := (List.range i).any fun j => meets (L.getD i z53) (L.getD j z53)
theorem getD_take (L : List S53) (i j : Nat) (h : j < i) : (L.take i).getD j z53 = L.getD j z53 := by
  rw [List.getD_eq_getElem?_getD, List.getD_eq_getElem?_getD, List.getElem?_take_of_lt h]
theorem hit_iff (L : List S53) (i : Nat) : hitAt L i = true ↔ ∃ j, j < i ∧ meets (L.getD i z53) (L.getD j z53) = true := by
  unfold hitAt
  rw [List.any_eq_true]
  exact ⟨fun ⟨j, h1, h2⟩ => ⟨j, List.mem_range.mp h1, h2⟩, fun ⟨j, h1, h2⟩ => ⟨j, List.mem_range.mpr h1, h2⟩⟩
theorem gd_get (L : List S53) (hg : ∀ x ∈ L, gdw x = true) (i : Nat) (h : i < L.length) : gdw (L.getD i z53) = true := by
  rw [List.getD_eq_getElem?_getD, List.getElem?_eq_getElem h]
  exact hg _ (List.getElem_mem h)
theorem spec_l1 (L : List S53) (hl : L.length ≤ 4) (hg : ∀ x ∈ L, gdw x = true) (i : Nat) (hi : i < L.length) (r : Bool) (hn : Ev (fun k => spec_ncApart.l0 k L L (L.length : Int) ((i + 1 : Nat) : Int)) r) :
    Ev (fun k => spec_ncApart.l1 k L L (L.length : Int) (i : Int) (L.take i) ((L.take i).length : Int) 0 (L.getD i z53).f0.f0 (L.getD i z53).f0.f1 (L.getD i z53).f1) (if hitAt L i = true then false else r) := by
  obtain ⟨k0, hk0⟩ := hn
  have tl : (L.take i).length = i := by rw [List.length_take]; omega
  obtain ⟨r', h1, h2⟩ := find_loop (fun k j => spec_ncApart.l1 k L L (L.length : Int) (i : Int) (L.take i) ((L.take i).length : Int) j (L.getD i z53).f0.f0 (L.getD i z53).f0.f1 (L.getD i z53).f1) i (fun j => meets (L.getD i z53) (L.getD j z53)) (fun _ => false) r
    (fun j hj => by
      obtain ⟨t, ⟨k1, h3⟩, h4⟩ := ncMeet_eq (L.getD i z53) (L.getD j z53) (gd_get L hg i hi) (gd_get L hg j (by omega))
      refine ⟨k1, fun k hk => ?_⟩
      simp only [spec_ncApart.l1, tl, rd53, getD_take L i j hj, n_suc j (by omega)]
      rw [if_pos (n_lt hj), if_pos (Int.natCast_nonneg j), if_pos (n_lt hj), show spec_ncMeet.f k _ _ _ _ _ _ = some t from h3 k hk]
      simp only [Option.bind_some, h4])
    ⟨k0, fun k hk => by
      simp only [spec_ncApart.l1, tl, n_suc i (by omega)]
      rw [if_neg (n_nlt (Nat.lt_irrefl _))]
      exact hk0 k hk⟩ i 0 (by omega)
  have e : r' = if hitAt L i = true then false else r := by
    rcases h2 with ⟨j, _, q2, q3, rfl⟩ | ⟨q1, rfl⟩
    · rw [if_pos ((hit_iff L i).mpr ⟨j, q2, q3⟩)]
    · rw [if_neg]
      intro hh
      obtain ⟨j, g1, g2⟩ := (hit_iff L i).mp hh
      rw [q1 j (Nat.zero_le _) g1] at g2
      cases g2
  rw [← e]
  exact h1
theorem spec_l0 (L : List S53) (hl : L.length ≤ 4) (hg : ∀ x ∈ L, gdw x = true) (d : Nat) : ∀ i : Nat, i + d = L.length → Ev (fun k => spec_ncApart.l0 k L L (L.length : Int) (i : Int)) (!(List.range' i d).any (hitAt L)) := by
  induction d with
  | zero =>
    intro i hi
    obtain rfl : i = L.length := by omega
    exact ⟨1, fun k hk => by
      obtain ⟨k, rfl⟩ : ∃ m, k = m + 1 := ⟨k - 1, by omega⟩
      simp only [spec_ncApart.l0]
      rw [if_neg (n_nlt (Nat.lt_irrefl _))]; rfl⟩
  | succ d ih =>
    intro i hi
    have hlt : i < L.length := by omega
    obtain ⟨k0, h3⟩ := spec_l1 L hl hg i hlt _ (ih (i + 1) (by omega))
    refine ⟨k0 + 1, fun k hk => ?_⟩
    obtain ⟨k, rfl⟩ : ∃ m, k = m + 1 := ⟨k - 1, by omega⟩
    simp only [spec_ncApart.l0, rd53, Option.bind_some, Int.toNat_natCast]
    rw [if_pos (n_lt hlt), if_pos (Int.natCast_nonneg i), if_pos (n_lt hlt), if_pos (by omega), show spec_ncApart.l1 k L L (L.length : Int) (i : Int) (L.take i) ((L.take i).length : Int) 0 _ _ _ = _ from h3 k (by omega), List.range'_succ, List.any_cons]
    cases hitAt L i <;> rfl
theorem impl_l1 (L : List S53) (hl : L.length ≤ 4) (hg : ∀ x ∈ L, gdw x = true) (i : Nat) (hi : i < L.length) (r : Bool × Bool) (hn : Ev (fun k => impl_AreApart.l0 k L L (L.length : Int) ((i + 1 : Nat) : Int)) r) :
    Ev (fun k => impl_AreApart.l1 k L L (L.length : Int) (i : Int) (L.take i) ((L.take i).length : Int) 0 (L.getD i z53).f0.f0 (L.getD i z53).f0.f1 (L.getD i z53).f1) (if hitAt L i = true then (false, true) else r) := by
  obtain ⟨k0, hk0⟩ := hn
  have tl : (L.take i).length = i := by rw [List.length_take]; omega
  obtain ⟨r', h1, h2⟩ := find_loop (fun k j => impl_AreApart.l1 k L L (L.length : Int) (i : Int) (L.take i) ((L.take i).length : Int) j (L.getD i z53).f0.f0 (L.getD i z53).f0.f1 (L.getD i z53).f1) i (fun j => meets (L.getD i z53) (L.getD j z53)) (fun _ => (false, true)) r
    (fun j hj => by
      obtain ⟨t, ⟨k1, h3⟩, h4⟩ := meeting_eq (L.getD i z53) (L.getD j z53) (gd_get L hg i hi) (gd_get L hg j (by omega))
      refine ⟨k1, fun k hk => ?_⟩
      simp only [impl_AreApart.l1, tl, rd53, getD_take L i j hj, n_suc j (by omega)]
      rw [if_pos (n_lt hj), if_pos (Int.natCast_nonneg j), if_pos (n_lt hj), show impl_meeting.f k _ _ _ _ _ _ = some t from h3 k hk]
      simp only [Option.bind_some]
      rw [← h4]
      by_cases c : t.1 ≥ 0
      · rw [if_pos c, if_pos (decide_eq_true c)]
      · rw [if_neg c, if_neg (by rw [decide_eq_false c]; decide)])
    ⟨k0, fun k hk => by
      simp only [impl_AreApart.l1, tl, n_suc i (by omega)]
      rw [if_neg (n_nlt (Nat.lt_irrefl _))]
      exact hk0 k hk⟩ i 0 (by omega)
  have e : r' = if hitAt L i = true then (false, true) else r := by
    rcases h2 with ⟨j, _, q2, q3, rfl⟩ | ⟨q1, rfl⟩
    · rw [if_pos ((hit_iff L i).mpr ⟨j, q2, q3⟩)]
    · rw [if_neg]
      intro hh
      obtain ⟨j, g1, g2⟩ := (hit_iff L i).mp hh
      rw [q1 j (Nat.zero_le _) g1] at g2
      cases g2
  rw [← e]
  exact h1
theorem impl_l0 (L : List S53) (hl : L.length ≤ 4) (hg : ∀ x ∈ L, gdw x = true) (d : Nat) : ∀ i : Nat, i + d = L.length → Ev (fun k => impl_AreApart.l0 k L L (L.length : Int) (i : Int)) (!(List.range' i d).any (hitAt L), true) := by
  induction d with
  | zero =>
    intro i hi
    obtain rfl : i = L.length := by omega
    exact ⟨1, fun k hk => by
      obtain ⟨k, rfl⟩ : ∃ m, k = m + 1 := ⟨k - 1, by omega⟩
      simp only [impl_AreApart.l0]
      rw [if_neg (n_nlt (Nat.lt_irrefl _))]; rfl⟩
  | succ d ih =>
    intro i hi
    have hlt : i < L.length := by omega
    obtain ⟨k0, h3⟩ := impl_l1 L hl hg i hlt _ (ih (i + 1) (by omega))
    refine ⟨k0 + 1, fun k hk => ?_⟩
    obtain ⟨k, rfl⟩ : ∃ m, k = m + 1 := ⟨k - 1, by omega⟩
    simp only [impl_AreApart.l0, rd53, Option.bind_some, Int.toNat_natCast]
    rw [if_pos (n_lt hlt), if_pos (Int.natCast_nonneg i), if_pos (n_lt hlt), if_pos (by omega), show impl_AreApart.l1 k L L (L.length : Int) (i : Int) (L.take i) ((L.take i).length : Int) 0 _ _ _ = _ from h3 k (by omega), List.range'_succ, List.any_cons]
    cases hitAt L i <;> rfl
/-- What both tell. -/
def AP (L : List S53) : Bool × Bool := if 1 ≤ L.length ∧ L.length ≤ 4 ∧ L.all gdw = true then (!(List.range' 0 L.length).any (hitAt L), true) else (false, false)
theorem spec_eq (L : List S53) : Ev (fun k => spec_AreApart.f k L) (AP L) := by
  by_cases hn : 1 ≤ L.length ∧ L.length ≤ 4
  · have hin : decide ((1 : Int) ≤ (L.length : Int) ∧ (L.length : Int) ≤ 4) = true := decide_eq_true (by omega)
    by_cases ha : L.all gdw = true
    · have hg : ∀ x ∈ L, gdw x = true := List.all_eq_true.mp ha
      obtain ⟨k0, h0⟩ := spec_l0 L hn.2 hg L.length 0 (by omega)
      obtain ⟨r, ⟨k1, h1⟩, h2⟩ := find_loop (fun k j => spec_AreApart.l0 k L L (L.length : Int) j) L.length (fun j => !gdw (L.getD j z53)) (fun _ => (false, false)) (!(List.range' 0 L.length).any (hitAt L), true)
        (fun j hj => ⟨50, fun k hk => by
          simp only [spec_AreApart.l0, rd53, n_suc j (by omega)]
          rw [if_pos (n_lt hj), if_pos (Int.natCast_nonneg j), if_pos (n_lt hj), specWay_eq _ _ _ k (by omega)]
          simp only [Option.bind_some]
          rw [show gd (L.getD j z53).f0.f0 (L.getD j z53).f0.f1 (L.getD j z53).f1 = gdw (L.getD j z53) from rfl]
          cases gdw (L.getD j z53) <;> rfl⟩)
        ⟨k0, fun k hk => by
          simp only [spec_AreApart.l0]
          rw [if_neg (n_nlt (Nat.lt_irrefl _))]
          unfold spec_ncApart.f
          rw [show spec_ncApart.l0 k L L (L.length : Int) 0 = _ from h0 k hk]; rfl⟩ L.length 0 (by omega)
      have e : r = AP L := by
        unfold AP
        rw [if_pos ⟨hn.1, hn.2, ha⟩]
        rcases h2 with ⟨j, _, q2, q3, _⟩ | ⟨_, rfl⟩
        · rw [gd_get L hg j q2] at q3; cases q3
        · rfl
      rw [← e]
      refine ⟨k1, fun k hk => ?_⟩
      show spec_AreApart.f k L = _
      unfold spec_AreApart.f
      rw [in_eq, hin]
      exact h1 k hk
    · obtain ⟨j, hj, hb⟩ : ∃ j, j < L.length ∧ gdw (L.getD j z53) = false := by
        rw [List.all_eq_true] at ha
        have : ∃ x ∈ L, ¬ gdw x = true := Classical.byContradiction fun hh => ha fun x hx => Classical.byContradiction fun hx' => hh ⟨x, hx, hx'⟩
        obtain ⟨x, hx, hx'⟩ := this
        obtain ⟨j, hj, rfl⟩ := List.mem_iff_getElem.mp hx
        exact ⟨j, hj, by rw [List.getD_eq_getElem?_getD, List.getElem?_eq_getElem hj]; exact Bool.eq_false_iff.mpr hx'⟩
      -- only the first ways up to the bad one are looked at
      obtain ⟨r, ⟨k1, h1⟩, h2⟩ := find_loop (fun k i => if i = ((j + 1 : Nat) : Int) then some (false, false) else spec_AreApart.l0 k L L (L.length : Int) i) (j + 1) (fun j => !gdw (L.getD j z53)) (fun _ => (false, false)) (false, false)
        (fun i hi => ⟨50, fun k hk => by
          rw [if_neg (by omega)]
          simp only [spec_AreApart.l0, rd53, n_suc i (by omega)]
          rw [if_pos (n_lt (by omega)), if_pos (Int.natCast_nonneg i), if_pos (n_lt (by omega)), specWay_eq _ _ _ k (by omega)]
          simp only [Option.bind_some]
          rw [show gd (L.getD i z53).f0.f0 (L.getD i z53).f0.f1 (L.getD i z53).f1 = gdw (L.getD i z53) from rfl]
          by_cases hgi : gdw (L.getD i z53) = true
          · rw [hgi]
            have : i ≠ j := fun e => by subst e; rw [hb] at hgi; cases hgi
            rw [if_pos rfl, if_neg (by decide), if_neg (by omega)]
          · rw [Bool.eq_false_iff.mpr hgi]; rfl⟩)
        ⟨0, fun k hk => by rw [if_pos rfl]⟩ (j + 1) 0 (by omega)
      have e : r = AP L := by
        unfold AP
        rw [if_neg (fun q => ha q.2.2)]
        rcases h2 with ⟨_, _, _, _, rfl⟩ | ⟨_, rfl⟩ <;> rfl
      rw [← e]
      refine ⟨k1, fun k hk => ?_⟩
      show spec_AreApart.f k L = _
      unfold spec_AreApart.f
      rw [in_eq, hin]
      have := h1 k hk
      simp only at this
      rw [if_neg (by omega)] at this
      exact this
  · have hin : decide ((1 : Int) ≤ (L.length : Int) ∧ (L.length : Int) ≤ 4) = false := decide_eq_false (by omega)
    refine ⟨0, fun k _ => ?_⟩
    show spec_AreApart.f k L = _
    unfold spec_AreApart.f AP
    rw [in_eq, hin, if_neg (fun q => hn ⟨q.1, q.2.1⟩)]; rfl
theorem contains_eq (L : List S53) (hl : L.length ≤ 4) : Ev (fun k => impl_Way_28.f k L impl_AreApart_1.fn) (!L.all gdw) := by
  obtain ⟨r, ⟨k1, h1⟩, h2⟩ := find_loop (fun k j => slices_IndexFunc_Way.l0 k impl_AreApart_1.f L (L.length : Int) j) L.length (fun j => !gdw (L.getD j z53)) (fun j => (j : Int)) (-1)
    (fun j hj => ⟨50, fun k hk => by
      simp only [slices_IndexFunc_Way.l0, rd53, n_suc j (by omega), impl_AreApart_1.f]
      rw [if_pos (n_lt hj), if_pos (Int.natCast_nonneg j), if_pos (n_lt hj), implWay_eq _ _ _ k (by omega)]
      rfl⟩)
    ⟨0, fun k hk => by
      simp only [slices_IndexFunc_Way.l0]
      rw [if_neg (n_nlt (Nat.lt_irrefl _))]⟩ L.length 0 (by omega)
  refine ⟨k1, fun k hk => ?_⟩
  show impl_Way_28.f k L impl_AreApart_1.fn = _
  unfold impl_Way_28.f slices_IndexFunc_Way.f
  rw [show slices_IndexFunc_Way.l0 k impl_AreApart_1.fn.f L (L.length : Int) 0 = some r from h1 k hk]
  simp only [Option.bind_some]
  congr 1
  rcases h2 with ⟨j, _, q2, q3, rfl⟩ | ⟨q1, rfl⟩
  · rw [decide_eq_true (Int.natCast_nonneg j)]
    symm
    rw [Bool.not_eq_true', Bool.eq_false_iff]
    intro ha
    rw [gd_get L (List.all_eq_true.mp ha) j q2] at q3
    cases q3
  · have : L.all gdw = true := by
      rw [List.all_eq_true]
      intro x hx
      obtain ⟨j, hj, rfl⟩ := List.mem_iff_getElem.mp hx
      have := q1 j (Nat.zero_le _) hj
      rw [List.getD_eq_getElem?_getD, List.getElem?_eq_getElem hj] at this
      simpa using this
    rw [this]; rfl
theorem impl_eq (L : List S53) : Ev (fun k => impl_AreApart.f k L) (AP L) := by
  by_cases hn : 1 ≤ L.length ∧ L.length ≤ 4
  · have hin : decide ((1 : Int) ≤ (L.length : Int) ∧ (L.length : Int) ≤ 4) = true := decide_eq_true (by omega)
    obtain ⟨k0, h0⟩ := contains_eq L hn.2
    by_cases ha : L.all gdw = true
    · obtain ⟨k1, h1⟩ := impl_l0 L hn.2 (List.all_eq_true.mp ha) L.length 0 (by omega)
      refine ⟨k0 + k1 + 1, fun k hk => ?_⟩
      show impl_AreApart.f k L = _
      unfold impl_AreApart.f AP
      rw [in_eq', hin, if_pos ⟨hn.1, hn.2, ha⟩]
      simp only [Option.bind_some, if_true]
      rw [show impl_Way_28.f k L impl_AreApart_1.fn = _ from h0 k (by omega), ha]
      obtain ⟨k, rfl⟩ : ∃ m, k = m + 1 := ⟨k - 1, by omega⟩
      exact h1 k (by omega)
    · refine ⟨k0 + 1, fun k hk => ?_⟩
      show impl_AreApart.f k L = _
      unfold impl_AreApart.f AP
      rw [in_eq', hin, if_neg (fun q => ha q.2.2)]
      simp only [Option.bind_some, if_true]
      rw [show impl_Way_28.f k L impl_AreApart_1.fn = _ from h0 k (by omega), Bool.eq_false_iff.mpr ha]
      obtain ⟨k, rfl⟩ : ∃ m, k = m + 1 := ⟨k - 1, by omega⟩
      rfl
  · have hin : decide ((1 : Int) ≤ (L.length : Int) ∧ (L.length : Int) ≤ 4) = false := decide_eq_false (by omega)
    refine ⟨1, fun k hk => ?_⟩
    show impl_AreApart.f k L = _
    unfold impl_AreApart.f AP
    rw [in_eq', hin, if_neg (fun q => hn ⟨q.1, q.2.1⟩)]
    obtain ⟨k, rfl⟩ : ∃ m, k = m + 1 := ⟨k - 1, by omega⟩
    rfl
theorem FnExactAreApart : laws_FnExactAreApart.Pure := by
  intro l0 hl hs
  have hw0 : wrap64 (1048576 - (l0.length : Int)) = 1048576 - (l0.length : Int) := w64 (by omega) (by omega)
  by_cases hbig : (1048576 : Int) - (l0.length : Int) < 0
  · refine ⟨0, ?_⟩
    unfold laws_FnExactAreApart.f laws_szWayS.f
    rw [hw0, if_pos hbig]
    rfl
  · obtain ⟨t, ⟨k0, h0⟩, h1⟩ := szW l0 hs (by omega) l0.length 0 (1048576 - (l0.length : Int)) (by omega) (by omega) (by omega)
    obtain ⟨k1, h2⟩ := spec_eq (l0.map conv)
    obtain ⟨k2, h3⟩ := impl_eq (l0.map conv)
    refine ⟨k0 + k1 + k2 + 1048600 + 1, ?_⟩
    have hsz : laws_szWayS.f (k0 + k1 + k2 + 1048600 + 1) l0 1048576 = some t := by
      unfold laws_szWayS.f
      rw [hw0, if_neg hbig]
      exact h0 _ (by omega)
    unfold laws_FnExactAreApart.f
    rw [hsz]
    simp only [Option.bind_some]
    by_cases ht : t < 0
    · rw [if_pos ht]
    · rw [if_neg ht, toW_eq l0 (by omega) _ (by omega)]
      simp only [Option.bind_some]
      rw [show spec_AreApart.f _ (l0.map conv) = _ from h2 _ (by omega), show impl_AreApart.f _ (l0.map conv) = _ from h3 _ (by omega)]
      simp only [Option.bind_some]
      rw [show ((AP (l0.map conv)).1 != (AP (l0.map conv)).1) = false by simp, show ((AP (l0.map conv)).2 != (AP (l0.map conv)).2) = false by simp, if_neg (by decide)]
      simp only [laws_FnExactAreApart.j0]
      rw [if_neg (by decide), toW_eq l0 (by omega) _ (by omega)]
      simp only [Option.bind_some]
      rw [eqW_eq (l0.map conv) (by rw [List.length_map]; omega) _ (by rw [List.length_map]; omega)]
      rfl

end Go.Proofs.YtgpebahbeccniaaDoor.PuqFnExactAreApart
namespace Go.Proofs.YtgpebahbeccniaaDoor.Pure
open Go.Proofs.YtgpebahbeccniaaDoor.QFnExactAreApart
theorem FnExactAreApart : laws_FnExactAreApart.Pure := Go.Proofs.YtgpebahbeccniaaDoor.PuqFnExactAreApart.FnExactAreApart
end Go.Proofs.YtgpebahbeccniaaDoor.Pure
