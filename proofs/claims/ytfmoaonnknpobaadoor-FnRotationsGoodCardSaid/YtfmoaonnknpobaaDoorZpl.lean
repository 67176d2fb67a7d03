/- Plain lemmas of our own on loops over numbers and lists, as the printed functions run them; no program in sight. -/
import Derived.Test.YtfmoaonnknpobaaDoorWWords
import Derived.Test.YtfmoaonnknpobaaDoorWLast
import Derived.Lib.SlTrimSet
namespace Go.Proofs.YtfmoaonnknpobaaDoorPl
open Go.RowKit Go.Proofs.YtfmoaonnknpobaaDoorW.PrintWords Go.Proofs.YtfmoaonnknpobaaDoorW.PrintLast
set_option linter.unusedVariables false

theorem w64 {x : Int} (h0 : -9223372036854775808 ≤ x) (h1 : x ≤ 9223372036854775807) : wrap64 x = x := by unfold wrap64; omega

/-- A loop that counts up from i to n, as a fold. -/
theorem loop_from {σ ρ : Type} (l : Nat → σ → Int → Option ρ) (n : Nat) (step : σ → Nat → σ) (fin : σ → ρ) (Inv : Nat → σ → Prop)
    (hs : ∀ (k i : Nat) (st : σ), i < n → Inv i st → l (k + 1) st (i : Int) = l k (step st i) ((i + 1 : Nat) : Int) ∧ Inv (i + 1) (step st i))
    (he : ∀ (k : Nat) (st : σ), Inv n st → l (k + 1) st (n : Int) = some (fin st)) :
    ∀ (d k i : Nat) (st : σ), i + d = n → Inv i st → d < k → l k st (i : Int) = some (fin ((List.range' i d).foldl step st)) ∧ Inv n ((List.range' i d).foldl step st) := by
  intro d
  induction d with
  | zero =>
    intro k i st hi hI hk
    obtain ⟨k, rfl⟩ : ∃ m, k = m + 1 := ⟨k - 1, by omega⟩
    obtain rfl : i = n := by omega
    exact ⟨he k st hI, hI⟩
  | succ d ih =>
    intro k i st hi hI hk
    obtain ⟨k, rfl⟩ : ∃ m, k = m + 1 := ⟨k - 1, by omega⟩
    obtain ⟨h1, h2⟩ := hs k i st (by omega) hI
    obtain ⟨h3, h4⟩ := ih k (i + 1) (step st i) (by omega) h2 (by omega)
    rw [List.range'_succ, List.foldl_cons]
    exact ⟨h1.trans h3, h4⟩

theorem loop_range {σ ρ : Type} (l : Nat → σ → Int → Option ρ) (n : Nat) (step : σ → Nat → σ) (fin : σ → ρ) (Inv : Nat → σ → Prop)
    (hs : ∀ (k i : Nat) (st : σ), i < n → Inv i st → l (k + 1) st (i : Int) = l k (step st i) ((i + 1 : Nat) : Int) ∧ Inv (i + 1) (step st i))
    (he : ∀ (k : Nat) (st : σ), Inv n st → l (k + 1) st (n : Int) = some (fin st)) (k : Nat) (st : σ) (hI : Inv 0 st) (hk : n < k) :
    l k st 0 = some (fin ((List.range n).foldl step st)) ∧ Inv n ((List.range n).foldl step st) := by
  have := loop_from l n step fin Inv hs he n k 0 st (by omega) hI hk
  rw [← List.range_eq_range'] at this
  exact this

theorem rd_nat (xs : List Int) (i : Nat) (h : i < xs.length) : rd xs (i : Int) = xs[i] := by
  unfold rd; rw [Int.toNat_natCast, List.getD_eq_getElem?_getD, List.getElem?_eq_getElem h]; rfl

/-! ### paths -/

/-- Is every byte a step? -/
def isP (s : ByteArray) : Bool := s.data.toList.all fun b => b == 85 || b == 68
/-- The height behind i steps. -/
def hgt (s : ByteArray) : Nat → Int
  | 0 => 0
  | i + 1 => hgt s i + (if bt s (i : Int) = 68 then -1 else 1)
def hts (s : ByteArray) (n : Nat) : List Int := (List.range (n + 1)).map (hgt s)
theorem hts_length (s : ByteArray) (n : Nat) : (hts s n).length = n + 1 := by simp [hts]
theorem hts_succ (s : ByteArray) (n : Nat) : hts s (n + 1) = hts s n ++ [hgt s (n + 1)] := by
  unfold hts; rw [List.range_succ, List.map_append]; rfl
theorem hts_zero (s : ByteArray) : hts s 0 = [0] := rfl
theorem rd_hts (s : ByteArray) (n i : Nat) (h : i ≤ n) : rd (hts s n) (i : Int) = hgt s i := by
  rw [rd_nat _ _ (by rw [hts_length]; omega)]; simp [hts]
theorem hgt_bound (s : ByteArray) : ∀ i : Nat, -(i : Int) ≤ hgt s i ∧ hgt s i ≤ i
  | 0 => by simp [hgt]
  | i + 1 => by have := hgt_bound s i; unfold hgt; split <;> omega

theorem all_of_bt (s : ByteArray) : isP s = true ↔ ∀ i : Nat, i < s.size → bt s (i : Int) = 85 ∨ bt s (i : Int) = 68 := by
  unfold isP
  rw [List.all_eq_true]
  constructor
  · intro h i hi
    have := h (s[i]'hi) (by rw [show s[i]'hi = s.data.toList[i]'(by simpa using hi) from rfl]; exact List.getElem_mem _)
    unfold bt; rw [dif_pos (by simpa using hi)]
    simp only [Bool.or_eq_true, beq_iff_eq] at this
    simp only [Int.toNat_natCast]
    rcases this with h1 | h1
    · left; rw [h1]; rfl
    · right; rw [h1]; rfl
  · intro h b hb
    obtain ⟨i, hi, rfl⟩ := List.mem_iff_getElem.mp hb
    have hi' : i < s.size := by simpa using hi
    have h1 := h i hi'
    unfold bt at h1; rw [dif_pos (by simpa using hi')] at h1
    simp only [Int.toNat_natCast] at h1
    have h2 : s[i]'hi' = s.data.toList[i]'hi := rfl
    rw [h2] at h1
    simp only [Bool.or_eq_true, beq_iff_eq]
    rcases h1 with h1 | h1
    · left; exact UInt8.toNat_inj.mp (by have : ((s.data.toList[i]'hi).toNat : Int) = 85 := h1; show _ = 85; omega)
    · right; exact UInt8.toNat_inj.mp (by have : ((s.data.toList[i]'hi).toNat : Int) = 68 := h1; show _ = 68; omega)

theorem dropWhile_nil {α : Type} (p : α → Bool) : ∀ l : List α, l.dropWhile p = [] ↔ ∀ b ∈ l, p b = true
  | [] => by simp
  | a :: l => by
    rw [List.dropWhile_cons]
    cases h : p a with
    | true => simp [h, dropWhile_nil p l]
    | false => simp [h]

/-- Trimming leaves nothing just where every byte is one of the set. -/
theorem trimS_nil (l cs : List UInt8) : Lib.trimS l cs = [] ↔ ∀ b ∈ l, cs.contains b = true := by
  unfold Lib.trimS Lib.trimLeftS Lib.trimRightS
  rw [dropWhile_nil]
  constructor
  · intro h
    by_cases hr : l.reverse.dropWhile (cs.contains ·) = []
    · rw [dropWhile_nil] at hr
      intro b hb; exact hr b (by simpa using hb)
    · exfalso
      have h1 := List.head_dropWhile_not (cs.contains ·) hr
      have h2 := h ((l.reverse.dropWhile (cs.contains ·)).head hr) (by rw [List.mem_reverse]; exact List.head_mem hr)
      rw [show cs.contains ((l.reverse.dropWhile (cs.contains ·)).head hr) = true from h2] at h1; cases h1
  · intro h b hb
    rw [List.mem_reverse] at hb
    exact h b (by simpa using (List.dropWhile_sublist (cs.contains ·)).subset hb)

theorem trim_eq (l cs : List UInt8) : ((⟨(Lib.trimS l cs).toArray⟩ : ByteArray).toList == ([] : List UInt8)) = l.all (cs.contains ·) := by
  rw [Lib.toList_data]
  rw [Bool.eq_iff_iff, beq_iff_eq, List.all_eq_true]
  exact trimS_nil l cs

end Go.Proofs.YtfmoaonnknpobaaDoorPl
