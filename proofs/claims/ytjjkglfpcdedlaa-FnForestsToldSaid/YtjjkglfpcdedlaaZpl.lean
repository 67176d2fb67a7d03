-- Words of the kit's print (print.sh), cut by a program of this repo to what this claim's texts name.
/- Plain lemmas of our own on loops over numbers and lists, as the printed functions run them; no program in sight. -/
import Derived.Test.YtjjkglfpcdedlaaWWords
import Derived.Test.YtjjkglfpcdedlaaWLast
import Derived.Lib.SlTrimSet
namespace Go.Proofs.YtjjkglfpcdedlaaPl
open Go.RowKit Go.Proofs.YtjjkglfpcdedlaaW.PrintWords Go.Proofs.YtjjkglfpcdedlaaW.PrintLast
set_option linter.unusedVariables false

theorem w64 {x : Int} (h0 : -9223372036854775808 ≤ x) (h1 : x ≤ 9223372036854775807) : wrap64 x = x := by unfold wrap64; omega

theorem loop_from {σ ρ : Type} (l : Nat → σ → Int → Option ρ) (n : Nat) (step : σ → Nat → σ) (fin : σ → ρ) (Inv : Nat → σ → Prop)
    (hs : ∀ (k i : Nat) (st : σ), i < n → Inv i st → l (k + 1) st (i : Int) = l k (step st i) ((i + 1 : Nat) : Int) ∧ Inv (i + 1) (step st i))
    (he : ∀ (k : Nat) (st : σ), Inv n st → l (k + 1) st (n : Int) = some (fin st)) :
    ∀ (d k i : Nat) (st : σ), i + d = n → Inv i st → d < k → l k st (i : Int) = some (fin ((List.range' i d).foldl step st)) ∧ Inv n ((List.range' i d).foldl step st) := by
  intro d
  induction d with
  | zero =>
    intro k i st hi hI hk
    obtain ⟨k, rfl⟩ : ∃ m, k = m + 1 := ⟨k - 1, by omega⟩
    obtain rfl : i = n := by omega
    exact ⟨he k st hI, hI⟩
  | succ d ih =>
    intro k i st hi hI hk
    obtain ⟨k, rfl⟩ : ∃ m, k = m + 1 := ⟨k - 1, by omega⟩
    obtain ⟨h1, h2⟩ := hs k i st (by omega) hI
    obtain ⟨h3, h4⟩ := ih k (i + 1) (step st i) (by omega) h2 (by omega)
    rw [List.range'_succ, List.foldl_cons]
    exact ⟨h1.trans h3, h4⟩

theorem loop_range {σ ρ : Type} (l : Nat → σ → Int → Option ρ) (n : Nat) (step : σ → Nat → σ) (fin : σ → ρ) (Inv : Nat → σ → Prop)
    (hs : ∀ (k i : Nat) (st : σ), i < n → Inv i st → l (k + 1) st (i : Int) = l k (step st i) ((i + 1 : Nat) : Int) ∧ Inv (i + 1) (step st i))
    (he : ∀ (k : Nat) (st : σ), Inv n st → l (k + 1) st (n : Int) = some (fin st)) (k : Nat) (st : σ) (hI : Inv 0 st) (hk : n < k) :
    l k st 0 = some (fin ((List.range n).foldl step st)) ∧ Inv n ((List.range n).foldl step st) := by
  have := loop_from l n step fin Inv hs he n k 0 st (by omega) hI hk
  rw [← List.range_eq_range'] at this
  exact this

theorem rd_nat (xs : List Int) (i : Nat) (h : i < xs.length) : rd xs (i : Int) = xs[i] := by
  unfold rd; rw [Int.toNat_natCast, List.getD_eq_getElem?_getD, List.getElem?_eq_getElem h]; rfl

/-! ### paths -/

def hgt (s : ByteArray) : Nat → Int
  | 0 => 0
  | i + 1 => hgt s i + (if bt s (i : Int) = 68 then -1 else 1)
def hts (s : ByteArray) (n : Nat) : List Int := (List.range (n + 1)).map (hgt s)
end Go.Proofs.YtjjkglfpcdedlaaPl
