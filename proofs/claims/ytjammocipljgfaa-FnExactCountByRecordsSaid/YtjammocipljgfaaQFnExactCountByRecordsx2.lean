/- Written by a program of this repo (xprint: a turned copy of the kit's print, with our own templates in it); Lean checks all of it. -/
import Derived.Test.YtjammocipljgfaaQFnExactCountByRecordsx0
import Derived.Test.YtjammocipljgfaaQFnExactCountByRecordsx1
namespace Go.Proofs.Ytjammocipljgfaa.QFnExactCountByRecords
open Go.RowKit Go.Proofs.YtjammocipljgfaaZ Go.Proofs.YtjammocipljgfaaW.PrintWords Go.Proofs.YtjammocipljgfaaW.PrintLast Go.Proofs.YtjammocipljgfaaW.PrintMore
attribute [local go_sem] max2_int min2_int max_two min_two max_three min_three max_four min_four   -- for this text's walks alone
set_option linter.unusedVariables false
set_option linter.unusedSimpArgs false

/-! ### spec_CountByRecords: function 44 -/
mutual
def spec_CountByRecords.l0 : Nat → Int → List Int → List (List Int) → Int → Int → Option (List Int × Bool)
  | 0, _, _, _, _, _ => none
  | k + 1, x0, x4, x5, x28, x29 => if x29 < x28 then (if 0 ≤ (wrap64 (x0 + 1)) then (if (wrap64 (x0 + 1) : Int).toNat ≤ 35184372088832 then (if 0 ≤ x29 then (if x29 < (x5.length : Int) then (spec_CountByRecords.l0 k x0 x4 (x5.set (x29 : Int).toNat (List.replicate (wrap64 (x0 + 1) : Int).toNat 0)) x28 (wrap64 (x29 + 1))) else (none)) else (none)) else (none)) else (none)) else (if 0 < (x5.length : Int) then (if 0 < ((rd_L1 x5 0).length : Int) then (spec_CountByRecords.l1 k x0 x4 (x5.set (0 : Int).toNat ((rd_L1 x5 0).set (0 : Int).toNat 1)) 0) else (none)) else (none))
def spec_CountByRecords.l1 : Nat → Int → List Int → List (List Int) → Int → Option (List Int × Bool)
  | 0, _, _, _, _ => none
  | k + 1, x0, x4, x5, x7 => if x7 < x0 then (if 0 ≤ (wrap64 (x0 + 1)) then (if (wrap64 (x0 + 1) : Int).toNat ≤ 11728124029610 then ((some (List.replicate (wrap64 (x0 + 1) : Int).toNat [] : List (List Int))).bind fun y121 => (spec_CountByRecords.l2 k x0 x4 x5 x7 y121 (y121.length : Int) 0)) else (none)) else (none)) else (spec_CountByRecords.l5 k x4 x5 (x5.length : Int) 0)
def spec_CountByRecords.l2 : Nat → Int → List Int → List (List Int) → Int → List (List Int) → Int → Int → Option (List Int × Bool)
  | 0, _, _, _, _, _, _, _ => none
  | k + 1, x0, x4, x5, x7, x8, x52, x53 => if x53 < x52 then (if 0 ≤ (wrap64 (x0 + 1)) then (if (wrap64 (x0 + 1) : Int).toNat ≤ 35184372088832 then (if 0 ≤ x53 then (if x53 < (x8.length : Int) then (spec_CountByRecords.l2 k x0 x4 x5 x7 (x8.set (x53 : Int).toNat (List.replicate (wrap64 (x0 + 1) : Int).toNat 0)) x52 (wrap64 (x53 + 1))) else (none)) else (none)) else (none)) else (none)) else (spec_CountByRecords.l3 k x0 x4 x7 x8 x5 (x5.length : Int) 0)
def spec_CountByRecords.l3 : Nat → Int → List Int → Int → List (List Int) → List (List Int) → Int → Int → Option (List Int × Bool)
  | 0, _, _, _, _, _, _, _ => none
  | k + 1, x0, x4, x7, x8, x63, x64, x65 => if x65 < x64 then (if 0 ≤ x65 then (if x65 < (x63.length : Int) then (spec_CountByRecords.l4 k x0 x4 x7 x8 x65 x63 x64 x65 (rd_L1 x63 x65) ((rd_L1 x63 x65).length : Int) 0) else (none)) else (none)) else (spec_CountByRecords.l1 k x0 x4 x8 (wrap64 (x7 + 1)))
def spec_CountByRecords.l4 : Nat → Int → List Int → Int → List (List Int) → Int → List (List Int) → Int → Int → List Int → Int → Int → Option (List Int × Bool)
  | 0, _, _, _, _, _, _, _, _, _, _, _ => none
  | k + 1, x0, x4, x7, x8, x10, x63, x64, x65, x70, x71, x72 => if x72 < x71 then (if 0 ≤ x72 then (if x72 < (x70.length : Int) then (if (rd x70 x72) = 0 then (spec_CountByRecords.l4 k x0 x4 x7 x8 x10 x63 x64 x65 x70 x71 (wrap64 (x72 + 1))) else (if x10 = 0 then (if 0 < (x8.length : Int) then (if 0 ≤ (wrap64 (x72 + 1)) then (if (wrap64 (x72 + 1)) < ((rd_L1 x8 0).length : Int) then ((some (x8.set (0 : Int).toNat ((rd_L1 x8 0).set ((wrap64 (x72 + 1)) : Int).toNat (wrap64 ((rd (rd_L1 x8 0) (wrap64 (x72 + 1))) + (rd x70 x72)))) : List (List Int))).bind fun y134 => (if 0 ≤ (wrap64 (x10 + 1)) then (if (wrap64 (x10 + 1)) < (x8.length : Int) then (if x72 < ((rd_L1 y134 (wrap64 (x10 + 1))).length : Int) then (spec_CountByRecords.l4 k x0 x4 x7 (y134.set ((wrap64 (x10 + 1)) : Int).toNat ((rd_L1 y134 (wrap64 (x10 + 1))).set (x72 : Int).toNat (wrap64 ((rd (rd_L1 y134 (wrap64 (x10 + 1))) x72) + (rd x70 x72))))) x10 x63 x64 x65 x70 x71 (wrap64 (x72 + 1))) else (none)) else (none)) else (none))) else (none)) else (none)) else (none)) else (if 0 ≤ (wrap64 (x10 - 1)) then (if (wrap64 (x10 - 1)) < (x8.length : Int) then (if x72 < ((rd_L1 x8 (wrap64 (x10 - 1))).length : Int) then ((some (x8.set ((wrap64 (x10 - 1)) : Int).toNat ((rd_L1 x8 (wrap64 (x10 - 1))).set (x72 : Int).toNat (wrap64 ((rd (rd_L1 x8 (wrap64 (x10 - 1))) x72) + (rd x70 x72)))) : List (List Int))).bind fun y144 => (if 0 ≤ (wrap64 (x10 + 1)) then (if (wrap64 (x10 + 1)) < (x8.length : Int) then (if x72 < ((rd_L1 y144 (wrap64 (x10 + 1))).length : Int) then (spec_CountByRecords.l4 k x0 x4 x7 (y144.set ((wrap64 (x10 + 1)) : Int).toNat ((rd_L1 y144 (wrap64 (x10 + 1))).set (x72 : Int).toNat (wrap64 ((rd (rd_L1 y144 (wrap64 (x10 + 1))) x72) + (rd x70 x72))))) x10 x63 x64 x65 x70 x71 (wrap64 (x72 + 1))) else (none)) else (none)) else (none))) else (none)) else (none)) else (none)))) else (none)) else (none)) else (spec_CountByRecords.l3 k x0 x4 x7 x8 x63 x64 (wrap64 (x65 + 1)))
def spec_CountByRecords.l5 : Nat → List Int → List (List Int) → Int → Int → Option (List Int × Bool)
  | 0, _, _, _, _ => none
  | k + 1, x4, x116, x117, x118 => if x118 < x117 then (if 0 ≤ x118 then (if x118 < (x116.length : Int) then (spec_CountByRecords.l6 k x4 x116 x117 x118 (rd_L1 x116 x118) ((rd_L1 x116 x118).length : Int) 0) else (none)) else (none)) else (some (x4, true))
def spec_CountByRecords.l6 : Nat → List Int → List (List Int) → Int → Int → List Int → Int → Int → Option (List Int × Bool)
  | 0, _, _, _, _, _, _, _ => none
  | k + 1, x4, x116, x117, x118, x122, x123, x124 => if x124 < x123 then (if 0 ≤ x124 then (if x124 < (x122.length : Int) then (if x124 < (x4.length : Int) then (spec_CountByRecords.l6 k (x4.set (x124 : Int).toNat (wrap64 ((rd x4 x124) + (rd x122 x124)))) x116 x117 x118 x122 x123 (wrap64 (x124 + 1))) else (none)) else (none)) else (none)) else (spec_CountByRecords.l5 k x4 x116 x117 (wrap64 (x118 + 1)))
end
def spec_CountByRecords.f (k : Nat) (a0 : Int) : Option (List Int × Bool) := (spec_reGood.f a0).bind fun t106 => (if t106 = true then (if 0 ≤ (wrap64 (a0 + 1)) then (if (wrap64 (a0 + 1) : Int).toNat ≤ 35184372088832 then (if (wrap64 (a0 + 1) : Int).toNat ≤ 11728124029610 then ((some (List.replicate (wrap64 (a0 + 1) : Int).toNat [] : List (List Int))).bind fun y110 => (spec_CountByRecords.l0 k a0 (List.replicate (wrap64 (a0 + 1) : Int).toNat 0) y110 (y110.length : Int) 0)) else (none)) else (none)) else (none)) else (some (([] : List Int), false)))
theorem spec_CountByRecords.mono_l : ∀ k, (∀ y0 y1 y2 y3 y4, LeO (spec_CountByRecords.l0 k y0 y1 y2 y3 y4) (spec_CountByRecords.l0 (k + 1) y0 y1 y2 y3 y4)) ∧ (∀ y0 y1 y2 y3, LeO (spec_CountByRecords.l1 k y0 y1 y2 y3) (spec_CountByRecords.l1 (k + 1) y0 y1 y2 y3)) ∧ (∀ y0 y1 y2 y3 y4 y5 y6, LeO (spec_CountByRecords.l2 k y0 y1 y2 y3 y4 y5 y6) (spec_CountByRecords.l2 (k + 1) y0 y1 y2 y3 y4 y5 y6)) ∧ (∀ y0 y1 y2 y3 y4 y5 y6, LeO (spec_CountByRecords.l3 k y0 y1 y2 y3 y4 y5 y6) (spec_CountByRecords.l3 (k + 1) y0 y1 y2 y3 y4 y5 y6)) ∧ (∀ y0 y1 y2 y3 y4 y5 y6 y7 y8 y9 y10, LeO (spec_CountByRecords.l4 k y0 y1 y2 y3 y4 y5 y6 y7 y8 y9 y10) (spec_CountByRecords.l4 (k + 1) y0 y1 y2 y3 y4 y5 y6 y7 y8 y9 y10)) ∧ (∀ y0 y1 y2 y3, LeO (spec_CountByRecords.l5 k y0 y1 y2 y3) (spec_CountByRecords.l5 (k + 1) y0 y1 y2 y3)) ∧ (∀ y0 y1 y2 y3 y4 y5 y6, LeO (spec_CountByRecords.l6 k y0 y1 y2 y3 y4 y5 y6) (spec_CountByRecords.l6 (k + 1) y0 y1 y2 y3 y4 y5 y6))
  | 0 => ⟨fun _ _ _ _ _ r h => by simp [spec_CountByRecords.l0] at h, fun _ _ _ _ r h => by simp [spec_CountByRecords.l1] at h, fun _ _ _ _ _ _ _ r h => by simp [spec_CountByRecords.l2] at h, fun _ _ _ _ _ _ _ r h => by simp [spec_CountByRecords.l3] at h, fun _ _ _ _ _ _ _ _ _ _ _ r h => by simp [spec_CountByRecords.l4] at h, fun _ _ _ _ r h => by simp [spec_CountByRecords.l5] at h, fun _ _ _ _ _ _ _ r h => by simp [spec_CountByRecords.l6] at h⟩
  | k + 1 => by
    obtain ⟨ih0, ih1, ih2, ih3, ih4, ih5, ih6⟩ := spec_CountByRecords.mono_l k
    refine ⟨?_, ?_, ?_, ?_, ?_, ?_, ?_⟩
    · intro y0 y1 y2 y3 y4
      unfold spec_CountByRecords.l0
      repeat' first
      | (with_reducible exact ih0 _ _ _ _ _)
      | (with_reducible exact ih1 _ _ _ _)
      | (with_reducible exact ih2 _ _ _ _ _ _ _)
      | (with_reducible exact ih3 _ _ _ _ _ _ _)
      | (with_reducible exact ih4 _ _ _ _ _ _ _ _ _ _ _)
      | (with_reducible exact ih5 _ _ _ _)
      | (with_reducible exact ih6 _ _ _ _ _ _ _)
      | (with_reducible exact LeO.refl _)
      | (with_reducible exact LeO.none _)
      | (with_reducible refine LeO.ite ?_ ?_)
      | (with_reducible refine LeO.bind ?_ (fun _ => ?_))
      | exact ih0 _ _ _ _ _
      | exact ih1 _ _ _ _
      | exact ih2 _ _ _ _ _ _ _
      | exact ih3 _ _ _ _ _ _ _
      | exact ih4 _ _ _ _ _ _ _ _ _ _ _
      | exact ih5 _ _ _ _
      | exact ih6 _ _ _ _ _ _ _
      | exact LeO.none _
      | refine LeO.ite ?_ ?_
      | refine LeO.bind ?_ (fun _ => ?_)
    · intro y0 y1 y2 y3
      unfold spec_CountByRecords.l1
      repeat' first
      | (with_reducible exact ih0 _ _ _ _ _)
      | (with_reducible exact ih1 _ _ _ _)
      | (with_reducible exact ih2 _ _ _ _ _ _ _)
      | (with_reducible exact ih3 _ _ _ _ _ _ _)
      | (with_reducible exact ih4 _ _ _ _ _ _ _ _ _ _ _)
      | (with_reducible exact ih5 _ _ _ _)
      | (with_reducible exact ih6 _ _ _ _ _ _ _)
      | (with_reducible exact LeO.refl _)
      | (with_reducible exact LeO.none _)
      | (with_reducible refine LeO.ite ?_ ?_)
      | (with_reducible refine LeO.bind ?_ (fun _ => ?_))
      | exact ih0 _ _ _ _ _
      | exact ih1 _ _ _ _
      | exact ih2 _ _ _ _ _ _ _
      | exact ih3 _ _ _ _ _ _ _
      | exact ih4 _ _ _ _ _ _ _ _ _ _ _
      | exact ih5 _ _ _ _
      | exact ih6 _ _ _ _ _ _ _
      | exact LeO.none _
      | refine LeO.ite ?_ ?_
      | refine LeO.bind ?_ (fun _ => ?_)
    · intro y0 y1 y2 y3 y4 y5 y6
      unfold spec_CountByRecords.l2
      repeat' first
      | (with_reducible exact ih0 _ _ _ _ _)
      | (with_reducible exact ih1 _ _ _ _)
      | (with_reducible exact ih2 _ _ _ _ _ _ _)
      | (with_reducible exact ih3 _ _ _ _ _ _ _)
      | (with_reducible exact ih4 _ _ _ _ _ _ _ _ _ _ _)
      | (with_reducible exact ih5 _ _ _ _)
      | (with_reducible exact ih6 _ _ _ _ _ _ _)
      | (with_reducible exact LeO.refl _)
      | (with_reducible exact LeO.none _)
      | (with_reducible refine LeO.ite ?_ ?_)
      | (with_reducible refine LeO.bind ?_ (fun _ => ?_))
      | exact ih0 _ _ _ _ _
      | exact ih1 _ _ _ _
      | exact ih2 _ _ _ _ _ _ _
      | exact ih3 _ _ _ _ _ _ _
      | exact ih4 _ _ _ _ _ _ _ _ _ _ _
      | exact ih5 _ _ _ _
      | exact ih6 _ _ _ _ _ _ _
      | exact LeO.none _
      | refine LeO.ite ?_ ?_
      | refine LeO.bind ?_ (fun _ => ?_)
    · intro y0 y1 y2 y3 y4 y5 y6
      unfold spec_CountByRecords.l3
      repeat' first
      | (with_reducible exact ih0 _ _ _ _ _)
      | (with_reducible exact ih1 _ _ _ _)
      | (with_reducible exact ih2 _ _ _ _ _ _ _)
      | (with_reducible exact ih3 _ _ _ _ _ _ _)
      | (with_reducible exact ih4 _ _ _ _ _ _ _ _ _ _ _)
      | (with_reducible exact ih5 _ _ _ _)
      | (with_reducible exact ih6 _ _ _ _ _ _ _)
      | (with_reducible exact LeO.refl _)
      | (with_reducible exact LeO.none _)
      | (with_reducible refine LeO.ite ?_ ?_)
      | (with_reducible refine LeO.bind ?_ (fun _ => ?_))
      | exact ih0 _ _ _ _ _
      | exact ih1 _ _ _ _
      | exact ih2 _ _ _ _ _ _ _
      | exact ih3 _ _ _ _ _ _ _
      | exact ih4 _ _ _ _ _ _ _ _ _ _ _
      | exact ih5 _ _ _ _
      | exact ih6 _ _ _ _ _ _ _
      | exact LeO.none _
      | refine LeO.ite ?_ ?_
      | refine LeO.bind ?_ (fun _ => ?_)
    · intro y0 y1 y2 y3 y4 y5 y6 y7 y8 y9 y10
      unfold spec_CountByRecords.l4
      repeat' first
      | (with_reducible exact ih0 _ _ _ _ _)
      | (with_reducible exact ih1 _ _ _ _)
      | (with_reducible exact ih2 _ _ _ _ _ _ _)
      | (with_reducible exact ih3 _ _ _ _ _ _ _)
      | (with_reducible exact ih4 _ _ _ _ _ _ _ _ _ _ _)
      | (with_reducible exact ih5 _ _ _ _)
      | (with_reducible exact ih6 _ _ _ _ _ _ _)
      | (with_reducible exact LeO.refl _)
      | (with_reducible exact LeO.none _)
      | (with_reducible refine LeO.ite ?_ ?_)
      | (with_reducible refine LeO.bind ?_ (fun _ => ?_))
      | exact ih0 _ _ _ _ _
      | exact ih1 _ _ _ _
      | exact ih2 _ _ _ _ _ _ _
      | exact ih3 _ _ _ _ _ _ _
      | exact ih4 _ _ _ _ _ _ _ _ _ _ _
      | exact ih5 _ _ _ _
      | exact ih6 _ _ _ _ _ _ _
      | exact LeO.none _
      | refine LeO.ite ?_ ?_
      | refine LeO.bind ?_ (fun _ => ?_)
    · intro y0 y1 y2 y3
      unfold spec_CountByRecords.l5
      repeat' first
      | (with_reducible exact ih0 _ _ _ _ _)
      | (with_reducible exact ih1 _ _ _ _)
      | (with_reducible exact ih2 _ _ _ _ _ _ _)
      | (with_reducible exact ih3 _ _ _ _ _ _ _)
      | (with_reducible exact ih4 _ _ _ _ _ _ _ _ _ _ _)
      | (with_reducible exact ih5 _ _ _ _)
      | (with_reducible exact ih6 _ _ _ _ _ _ _)
      | (with_reducible exact LeO.refl _)
      | (with_reducible exact LeO.none _)
      | (with_reducible refine LeO.ite ?_ ?_)
      | (with_reducible refine LeO.bind ?_ (fun _ => ?_))
      | exact ih0 _ _ _ _ _
      | exact ih1 _ _ _ _
      | exact ih2 _ _ _ _ _ _ _
      | exact ih3 _ _ _ _ _ _ _
      | exact ih4 _ _ _ _ _ _ _ _ _ _ _
      | exact ih5 _ _ _ _
      | exact ih6 _ _ _ _ _ _ _
      | exact LeO.none _
      | refine LeO.ite ?_ ?_
      | refine LeO.bind ?_ (fun _ => ?_)
    · intro y0 y1 y2 y3 y4 y5 y6
      unfold spec_CountByRecords.l6
      repeat' first
      | (with_reducible exact ih0 _ _ _ _ _)
      | (with_reducible exact ih1 _ _ _ _)
      | (with_reducible exact ih2 _ _ _ _ _ _ _)
      | (with_reducible exact ih3 _ _ _ _ _ _ _)
      | (with_reducible exact ih4 _ _ _ _ _ _ _ _ _ _ _)
      | (with_reducible exact ih5 _ _ _ _)
      | (with_reducible exact ih6 _ _ _ _ _ _ _)
      | (with_reducible exact LeO.refl _)
      | (with_reducible exact LeO.none _)
      | (with_reducible refine LeO.ite ?_ ?_)
      | (with_reducible refine LeO.bind ?_ (fun _ => ?_))
      | exact ih0 _ _ _ _ _
      | exact ih1 _ _ _ _
      | exact ih2 _ _ _ _ _ _ _
      | exact ih3 _ _ _ _ _ _ _
      | exact ih4 _ _ _ _ _ _ _ _ _ _ _
      | exact ih5 _ _ _ _
      | exact ih6 _ _ _ _ _ _ _
      | exact LeO.none _
      | refine LeO.ite ?_ ?_
      | refine LeO.bind ?_ (fun _ => ?_)
theorem spec_CountByRecords.mono : ∀ a0 k, LeO (spec_CountByRecords.f k a0) (spec_CountByRecords.f (k + 1) a0) := by
  intro a0 k
  obtain ⟨ih0, ih1, ih2, ih3, ih4, ih5, ih6⟩ := spec_CountByRecords.mono_l k
  unfold spec_CountByRecords.f
  repeat' first
      | (with_reducible exact ih0 _ _ _ _ _)
      | (with_reducible exact ih1 _ _ _ _)
      | (with_reducible exact ih2 _ _ _ _ _ _ _)
      | (with_reducible exact ih3 _ _ _ _ _ _ _)
      | (with_reducible exact ih4 _ _ _ _ _ _ _ _ _ _ _)
      | (with_reducible exact ih5 _ _ _ _)
      | (with_reducible exact ih6 _ _ _ _ _ _ _)
      | (with_reducible exact LeO.refl _)
      | (with_reducible exact LeO.none _)
      | (with_reducible refine LeO.ite ?_ ?_)
      | (with_reducible refine LeO.bind ?_ (fun _ => ?_))
      | exact ih0 _ _ _ _ _
      | exact ih1 _ _ _ _
      | exact ih2 _ _ _ _ _ _ _
      | exact ih3 _ _ _ _ _ _ _
      | exact ih4 _ _ _ _ _ _ _ _ _ _ _
      | exact ih5 _ _ _ _
      | exact ih6 _ _ _ _ _ _ _
      | exact LeO.none _
      | refine LeO.ite ?_ ?_
      | refine LeO.bind ?_ (fun _ => ?_)
theorem zS_floor {W w1 : World} {base n e1 e2 : Nat} {p : Nat → Prop} {v : Value} {xs : List (List Int)} (hb : Below W.heap.size W w1) (h : Kd.S (Kd.slice e1 (Kd.int .i64)) e2 W base (fun k => p k ∧ n ≤ k) v xs) (hp : 0 < xs.length) : n ≤ W.heap.size := by
  obtain ⟨g, cap, e, _, hlt, _⟩ := Kd.S_form h hp
  subst e
  exact Nat.le_of_lt (Nat.lt_of_le_of_lt ((Kd.S_R h).1 g rfl).2 hlt)
set_option maxHeartbeats 8000000 in
set_option maxRecDepth 100000 in
theorem spec_CountByRecords.calls (k : Nat) (a0 : Int) (r1 : List Int) (r2 : Bool) (w : World) (h : spec_CountByRecords.f k a0 = some (r1, r2)) :
    Calls Try.prog 44 #[.int .i64 a0] w fun e w' => ∃ v0_ : Value, e = .returned (.tuple #[v0_, .bool r2]) ∧ Kd.R (Kd.int .i64) 3 w' w.heap.size (fun _ => True) v0_ r1 ∧ Below w.heap.size w w' := by
  have HB := Aside0.mk (Below.refl w.heap.size w)
  have H : ((spec_reGood.f a0).bind fun t106 => (if t106 = true then (if 0 ≤ (wrap64 (a0 + 1)) then (if (wrap64 (a0 + 1) : Int).toNat ≤ 35184372088832 then (if (wrap64 (a0 + 1) : Int).toNat ≤ 11728124029610 then ((some (List.replicate (wrap64 (a0 + 1) : Int).toNat [] : List (List Int))).bind fun y110 => (spec_CountByRecords.l0 k a0 (List.replicate (wrap64 (a0 + 1) : Int).toNat 0) y110 (y110.length : Int) 0)) else (none)) else (none)) else (none)) else (some (([] : List Int), false)))) = some (r1, r2) := h
  clear h
  replace H := Option.bind_eq_some_iff.mp H
  obtain ⟨t106, A20, H⟩ := H
  replace H : (if t106 = true then (if 0 ≤ (wrap64 (a0 + 1)) then (if (wrap64 (a0 + 1) : Int).toNat ≤ 35184372088832 then (if (wrap64 (a0 + 1) : Int).toNat ≤ 11728124029610 then ((some (List.replicate (wrap64 (a0 + 1) : Int).toNat [] : List (List Int))).bind fun y110 => (spec_CountByRecords.l0 k a0 (List.replicate (wrap64 (a0 + 1) : Int).toNat 0) y110 (y110.length : Int) 0)) else (none)) else (none)) else (none)) else (some (([] : List Int), false))) = some (r1, r2) := H
  have A2 := Aside0.mk A20
  clear A20
  by_cases c3 : t106 = true
  · subst c3
    have H1 : (if 0 ≤ (wrap64 (a0 + 1)) then (if (wrap64 (a0 + 1) : Int).toNat ≤ 35184372088832 then (if (wrap64 (a0 + 1) : Int).toNat ≤ 11728124029610 then ((some (List.replicate (wrap64 (a0 + 1) : Int).toNat [] : List (List Int))).bind fun y110 => (spec_CountByRecords.l0 k a0 (List.replicate (wrap64 (a0 + 1) : Int).toNat 0) y110 (y110.length : Int) 0)) else (none)) else (none)) else (none)) = some (r1, r2) := by rw [if_pos rfl] at H; exact H
    clear H
    have H := H1
    clear H1
    obtain ⟨ji4, hji4⟩ : ∃ j_ : Int, (wrap64 (a0 + 1)) = j_ := ⟨_, rfl⟩
    replace H : (if 0 ≤ (ji4) then (if (ji4 : Int).toNat ≤ 35184372088832 then (if (ji4 : Int).toNat ≤ 11728124029610 then ((some (List.replicate (ji4 : Int).toNat [] : List (List Int))).bind fun y110 => (spec_CountByRecords.l0 k a0 (List.replicate (ji4 : Int).toNat 0) y110 (y110.length : Int) 0)) else (none)) else (none)) else (none)) = some (r1, r2) := by first | (rw [hji4] at H; exact H) | (simp only [hji4] at H ⊢; exact H)
    (try rw [hji4] at A2)
    have hji4w : (IntKind.i64.wrap (a0 + 1)) = ji4 := (i64_w _).trans hji4
    by_cases c5 : 0 ≤ (ji4)
    · rw [if_pos c5] at H
      have c5b0 := eq_true c5
      have c5b1 : decide (0 ≤ (ji4)) = true := decide_eq_true c5
      clear c5
      by_cases c6 : (ji4 : Int).toNat ≤ 35184372088832
      · rw [if_pos c6] at H
        have c6b0 := eq_true c6
        have c6b1 : decide ((ji4 : Int).toNat ≤ 35184372088832) = true := decide_eq_true c6
        clear c6
        obtain ⟨y107, hy107⟩ : ∃ y_ : List Int, y_ = (List.replicate (ji4 : Int).toNat 0) := ⟨_, rfl⟩
        replace H : (if (ji4 : Int).toNat ≤ 11728124029610 then ((some (List.replicate (ji4 : Int).toNat [] : List (List Int))).bind fun y110 => (spec_CountByRecords.l0 k a0 y107 y110 (y110.length : Int) 0)) else (none)) = some (r1, r2) := by first | (rw [hy107]; with_reducible exact H) | (have H2_ := (Option.bind_some _ _).symm.trans H; rw [hy107]; with_reducible exact H2_) | (have H2_ := (Option.bind_some _ _).symm.trans H; with_reducible exact H2_) | with_reducible exact H | (rw [hy107]; exact H) | exact H
        have Ny107 := Aside0.mk hy107
        clear hy107
        by_cases c7 : (ji4 : Int).toNat ≤ 11728124029610
        · rw [if_pos c7] at H
          have c7b0 := eq_true c7
          have c7b1 : decide ((ji4 : Int).toNat ≤ 11728124029610) = true := decide_eq_true c7
          clear c7
          obtain ⟨y110, hy110⟩ : ∃ y_ : List (List Int), y_ = (List.replicate (ji4 : Int).toNat []) := ⟨_, rfl⟩
          replace H : (spec_CountByRecords.l0 k a0 y107 y110 (y110.length : Int) 0) = some (r1, r2) := by first | (rw [hy110]; with_reducible exact H) | (have H2_ := (Option.bind_some _ _).symm.trans H; rw [hy110]; with_reducible exact H2_) | (have H2_ := (Option.bind_some _ _).symm.trans H; with_reducible exact H2_) | with_reducible exact H | (rw [hy110]; exact H) | exact H
          have Ny110 := Aside0.mk hy110
          clear hy110
          have H' := Aside0.mk H
          clear H
          go_enter Try.func44, Try.ntmps44
          go_wp2_with (first | ((with_reducible refine gate_callee (f := 46) rfl ?_); refine goesL_ (some 19) rfl rfl Try.func46 (by kernel_rfl) rfl #[.int .i64 a0] rfl (by (try simp only [List.map_toArray, List.map_cons, List.map_nil]); first | done | rfl | (simp only [List.length_drop, List.length_take]; rfl)) ?_; (with_reducible refine (spec_reGood.calls a0 true _ A2.out).mono ?_); rintro e w' ⟨rfl, ⟨nd, rfl⟩⟩; refine ⟨_, rfl, ?_⟩) | ((with_reducible refine gate_dst (N := 23) rfl ?_); refine Kd.R_make (Kd.int .i64) _ 3 rfl (N := 23) rfl 30 _ _ rfl ji4 rfl rfl Try.underlying30 (.int .i64 0) 8 info3 rfl (by decide) (by omega) 0 (ok := fun _ => True) (okp := fun _ => True) rfl (fun _ hk => hk) trivial (of_decide_eq_true (by first | (with_reducible assumption) | assumption)) (Nat.le_trans (Nat.mul_le_mul_right _ (of_decide_eq_true (by first | (with_reducible assumption) | assumption) : ji4.toNat ≤ 35184372088832)) (by omega)) (Below.refl _ _) (Nat.le_refl _) ?_; intro v108 w8 ho9 hb hg_ hnew_; clear hg_ hnew_; (first | rw [← Ny107.out] at ho9 | (simp only [Int.reduceToNat] at ho9; rw [← Ny107.out] at ho9)); have n0_ := Aside0.mk (Kd.R_lower ho9 (below_size (by repeat (first | (with_reducible first | exact HB.out | apply below_alloc | apply pw_below_drewN | apply below_drew1) | exact HB.out)))); have n1_ := Aside0.mk (below_step (by repeat (first | (with_reducible first | exact HB.out | apply below_alloc | apply pw_below_drewN | apply below_drew1) | exact HB.out)) hb); clear HB; have HO109 := n0_; have HB := n1_; clear n0_ n1_; clear hb ho9) | ((with_reducible refine gate_dst (N := 26) rfl ?_); refine Kd.S_make (Kd.slice 3 (Kd.int .i64)) _ 30 rfl (N := 26) rfl 37 _ _ rfl ji4 rfl rfl Try.underlying37 (.slice none 0 0) 24 info30 rfl (by decide) (by omega) [] (ok := fun _ => True) (okp := fun _ => True) ⟨_, rfl, Kd.R_nil _ _ _ _ _⟩ (fun _ hk => hk) trivial (of_decide_eq_true (by first | (with_reducible assumption) | assumption)) (Nat.le_trans (Nat.mul_le_mul_right _ (of_decide_eq_true (by first | (with_reducible assumption) | assumption) : ji4.toNat ≤ 11728124029610)) (by omega)) (Below.refl _ _) (Nat.le_refl _) ?_; intro v111 w10 ho11 hb hg_ hnew_; clear hg_ hnew_; (first | rw [← Ny110.out] at ho11 | (simp only [Int.reduceToNat] at ho11; rw [← Ny110.out] at ho11)); have n0_ := Aside0.mk (Kd.R_below (by (with_reducible repeat (first | apply Kd.R_alloc | apply Kd.R_drewN | apply Kd.R_drew)); exact HO109.out) hb); have n1_ := Aside0.mk (Kd.S_lower (Kd.S_new' ho11 (Kd.R_lt (by (with_reducible repeat (first | apply Kd.R_alloc | apply Kd.R_drewN | apply Kd.R_drew)); exact HO109.out))) (below_size (by repeat (first | (with_reducible first | exact HB.out | apply below_alloc | apply pw_below_drewN | apply below_drew1) | exact HB.out)))); have n2_ := Aside0.mk (below_step (by repeat (first | (with_reducible first | exact HB.out | apply below_alloc | apply pw_below_drewN | apply below_drew1) | exact HB.out)) hb); clear HO109; clear HB; have HO109 := n0_; have HO112 := n1_; have HB := n2_; clear n0_ n1_ n2_; clear hb ho11; obtain ⟨Ao12, co12, eo12⟩ := Kd.S_slice HO112.out; subst eo12))
          go_loopg [29] k (fun kq v29 w' => ∃ (x5_1 : List (List Int)) (x29_1 : Int), v29 = .int .i64 x29_1 ∧ Aside0 (spec_CountByRecords.l0 kq a0 y107 x5_1 (y110.length : Int) x29_1 = some (r1, r2)) ∧ Aside0 (kq ≤ k) ∧ Aside0 (Kd.R (Kd.int .i64) 3 w' w.heap.size (fun _ => True) v108 y107) ∧ Aside0 (Kd.S (Kd.slice 3 (Kd.int .i64)) 30 w' w.heap.size (fun k_ => some k_ ≠ (v108 : Value).ownBlock) (.slice Ao12 y110.length co12) x5_1) ∧ Aside0 (Below w.heap.size w w'))
          case atStart => exact ⟨(y110), (0), (by first | rfl | (simp; done) | (simp [*]; done)), H', ⟨Nat.le_refl _⟩, ⟨by (with_reducible repeat (first | apply Kd.R_alloc | apply Kd.R_drewN | apply Kd.R_drew)); exact HO109.out⟩, ⟨by (with_reducible repeat (first | apply Kd.S_alloc | apply Kd.S_drewN | apply Kd.S_drew)); exact Kd.S_mono HO112.out (fun _ hk => hk.2)⟩, ⟨by repeat (first | (with_reducible first | exact HB.out | apply below_alloc | apply pw_below_drewN | apply below_drew1) | exact HB.out)⟩⟩
          case round =>
            clear H'
            try clear p2
            try clear c3
            try clear c4
            try clear c5
            try clear c5b0
            try clear c5b1
            try clear c6
            try clear c6b0
            try clear c6b1
            try clear p6
            try clear c7
            try clear c7b0
            try clear c7b1
            obtain ⟨x5_1, x29_1, rfl, HA, HK1, HO_4, HO_5, HB⟩ := hrel
            have hl5_1 := (Kd.S_reads' HO_5.out).1
            rw [hl5_1] at HO_5
            (try simp only [hl5_1])
            (try simp only [hl5_1] at HO_4)
            cases gk with
            | zero => exact absurd HA.out (by simp [spec_CountByRecords.l0])
            | succ k1 =>
              have H := HA.out
              clear HA
              simp only [spec_CountByRecords.l0] at H
              by_cases c13 : x29_1 < (y110.length : Int)
              · rw [if_pos c13] at H
                have c13b0 : decide (x29_1 < (y110.length : Int)) = true := decide_eq_true c13
                (try (have c13b0h := c13b0; simp only [hl5_1] at c13b0h))
                clear c13
                obtain ⟨ji14, hji14⟩ : ∃ j_ : Int, (wrap64 (a0 + 1)) = j_ := ⟨_, rfl⟩
                replace H : (if 0 ≤ (ji14) then (if (ji14 : Int).toNat ≤ 35184372088832 then (if 0 ≤ x29_1 then (if x29_1 < (x5_1.length : Int) then (spec_CountByRecords.l0 k1 a0 y107 (x5_1.set (x29_1 : Int).toNat (List.replicate (ji14 : Int).toNat 0)) (y110.length : Int) (wrap64 (x29_1 + 1))) else (none)) else (none)) else (none)) else (none)) = some (r1, r2) := by first | (rw [hji14] at H; exact H) | (simp only [hji14] at H ⊢; exact H)
                try clear hji4w
                have hji14w : (IntKind.i64.wrap (a0 + 1)) = ji14 := (i64_w _).trans hji14
                by_cases c15 : 0 ≤ (ji14)
                · rw [if_pos c15] at H
                  have c15b0 := eq_true c15
                  have c15b1 : decide (0 ≤ (ji14)) = true := decide_eq_true c15
                  clear c15
                  by_cases c16 : (ji14 : Int).toNat ≤ 35184372088832
                  · rw [if_pos c16] at H
                    have c16b0 := eq_true c16
                    have c16b1 : decide ((ji14 : Int).toNat ≤ 35184372088832) = true := decide_eq_true c16
                    clear c16
                    obtain ⟨y113, hy113⟩ : ∃ y_ : List Int, y_ = (List.replicate (ji14 : Int).toNat 0) := ⟨_, rfl⟩
                    replace H : (if 0 ≤ x29_1 then (if x29_1 < (x5_1.length : Int) then (spec_CountByRecords.l0 k1 a0 y107 (x5_1.set (x29_1 : Int).toNat y113) (y110.length : Int) (wrap64 (x29_1 + 1))) else (none)) else (none)) = some (r1, r2) := by first | (rw [hy113]; with_reducible exact H) | (have H2_ := (Option.bind_some _ _).symm.trans H; rw [hy113]; with_reducible exact H2_) | (have H2_ := (Option.bind_some _ _).symm.trans H; with_reducible exact H2_) | with_reducible exact H | (rw [hy113]; exact H) | exact H
                    have Ny113 := Aside0.mk hy113
                    clear hy113
                    by_cases c17 : 0 ≤ x29_1
                    · rw [if_pos c17] at H
                      have c17b0 : decide (0 ≤ x29_1) = true := decide_eq_true c17
                      clear c17
                      by_cases c18 : x29_1 < (x5_1.length : Int)
                      · rw [if_pos c18] at H
                        have c18b0 : decide (x29_1 < (x5_1.length : Int)) = true := decide_eq_true c18
                        (try (have c18b0h := c18b0; simp only [hl5_1] at c18b0h))
                        clear c18
                        obtain ⟨y116, hy116⟩ : ∃ y_ : List (List Int), y_ = (x5_1.set (x29_1 : Int).toNat y113) := ⟨_, rfl⟩
                        replace H : (spec_CountByRecords.l0 k1 a0 y107 y116 (y110.length : Int) (wrap64 (x29_1 + 1))) = some (r1, r2) := by first | (rw [hy116]; with_reducible exact H) | (have H2_ := (Option.bind_some _ _).symm.trans H; rw [hy116]; with_reducible exact H2_) | (have H2_ := (Option.bind_some _ _).symm.trans H; with_reducible exact H2_) | with_reducible exact H | (rw [hy116]; exact H) | exact H
                        have Ny116 := Aside0.mk hy116
                        clear hy116
                        have H' := Aside0.mk H
                        clear H
                        go_wp2_with (first | ((with_reducible refine gate_dst (N := 36) rfl ?_); refine Kd.R_make (Kd.int .i64) _ 3 rfl (N := 36) rfl 30 _ _ rfl ji14 rfl rfl Try.underlying30 (.int .i64 0) 8 info3 rfl (by decide) (by omega) 0 (ok := fun _ => True) (okp := fun _ => True) rfl (fun _ hk => hk) trivial (of_decide_eq_true (by first | (with_reducible assumption) | assumption)) (Nat.le_trans (Nat.mul_le_mul_right _ (of_decide_eq_true (by first | (with_reducible assumption) | assumption) : ji14.toNat ≤ 35184372088832)) (by omega)) (Below.refl _ _) (Nat.le_refl _) ?_; intro v114 w20 ho21 hb hg_ hnew_; clear hg_ hnew_; (first | rw [← Ny113.out] at ho21 | (simp only [Int.reduceToNat] at ho21; rw [← Ny113.out] at ho21)); have n0_ := Aside0.mk (Kd.R_elder' (by (with_reducible repeat (first | apply Kd.R_alloc | apply Kd.R_drewN | apply Kd.R_drew)); exact HO_4.out) (Kd.R_base ho21) hb); have n1_ := Aside0.mk (Kd.S_elder' (by (with_reducible repeat (first | apply Kd.S_alloc | apply Kd.S_drewN | apply Kd.S_drew)); exact HO_5.out) (Kd.R_base ho21) hb); have n2_ := Aside0.mk (Kd.R_lower (Kd.R_new' ho21 (Kd.R_lt (by (with_reducible repeat (first | apply Kd.R_alloc | apply Kd.R_drewN | apply Kd.R_drew)); exact HO_4.out))) (below_size (by repeat (first | (with_reducible first | exact HB.out | apply below_alloc | apply pw_below_drewN | apply below_drew1) | exact HB.out)))); have n3_ := Aside0.mk (below_step (by repeat (first | (with_reducible first | exact HB.out | apply below_alloc | apply pw_below_drewN | apply below_drew1) | exact HB.out)) hb); clear HO_4; clear HO_5; clear HB; have HO_4 := n0_; have HO_5 := n1_; have HO115 := n2_; have HB := n3_; clear n0_ n1_ n2_ n3_; clear hb ho21; have p19 : 0 ≤ (x29_1 : Int) := of_decide_eq_true (by first | (with_reducible assumption) | assumption); have q19 : (x29_1 : Int) < ((x5_1.length : Int) : Int) := of_decide_eq_true (by first | (with_reducible assumption) | assumption); obtain ⟨go19, co19, eo19, gb19, gl19, cl19, HG19⟩ := Kd.S_form HO_5.out (by omega); (first | cases eo19 | (injection eo19 with ea_ en_ ec_; (first | subst ea_ | (injection ea_ with ea_; subst ea_)); subst ec_; clear en_)); have GB19 := Aside0.mk gb19; have GG19 := Aside0.mk HG19; clear gb19 gl19 HG19; obtain ⟨_, ce19, hcl19, hM19, hcc19, hfr19, _, _⟩ := Kd.S_elem HO_5.out [] (x29_1 : Int) p19 q19; obtain ⟨ve19_0, rfl, ge19_0⟩ := hM19; have hx19_0 := hcc19 0 _ rfl; have hf19_0 := hfr19 0; (try simp only [show ((Kd.slice 3 (Kd.int .i64))).sz = 1 from rfl, Nat.mul_one, Nat.add_zero] at hx19_0); (try simp only [show ((Kd.slice 3 (Kd.int .i64))).sz = 1 from rfl, Nat.mul_one, Nat.add_zero] at hf19_0); clear hcl19 hcc19 hfr19; (try clear hM19); replace p19 := eq_true p19; replace q19 := eq_true q19; obtain ⟨Ao22, co22, eo22⟩ := Kd.R_slice HO115.out; subst eo22; have HX23 := Aside0.mk (show Kd.S (Kd.slice 3 (Kd.int .i64)) 30 w20 w.heap.size (fun k_ => ((fun k_ => some k_ ≠ (v108 : Value).ownBlock)) k_ ∧ ¬ ((fun k_ => some k_ = (.slice Ao22 y113.length co22 : Value).ownBlock)) k_) (.slice (some ⟨go19, 0, none⟩) x5_1.length co12) x5_1 from (by (with_reducible repeat (first | apply Kd.S_alloc | apply Kd.S_drewN | apply Kd.S_drew)); exact Kd.S_mono HO_5.out (fun k_ hk => ⟨hk.1, fun e_ => hk.2 e_⟩))); obtain ⟨oki23, ce23, hcl23, hM23, hcc23, hfr23, hoki23, hH23⟩ := Kd.S_elem HX23.out [] (x29_1 : Int) (of_decide_eq_true (by first | (with_reducible assumption) | assumption)) (by have h_ : (x29_1 : Int) < ((x5_1.length : Int) : Int) := of_decide_eq_true (by first | (with_reducible assumption) | assumption); first | exact h_ | (have e_ := (Kd.S_reads' HO_5.out).1; omega) | simpa using h_); obtain ⟨ve23_0, rfl, ge23_0⟩ := hM23; have HP23 := Kd.S_seg hH23 (of_decide_eq_true (by first | (with_reducible assumption) | assumption)) (by have h_ : (x29_1 : Int) < ((x5_1.length : Int) : Int) := of_decide_eq_true (by first | (with_reducible assumption) | assumption); first | exact h_ | (have e_ := (Kd.S_reads' HO_5.out).1; omega) | simpa using h_) (seg := [.slice Ao22 y113.length co22]) (j := 0) (show 1 ≤ 1 from by decide) (x' := y113) (Kd.M_row (Kd.R_mono (Kd.R_tight rfl (Kd.R_mono (ok' := fun k_ => ((fun k_ => some k_ ≠ (v108 : Value).ownBlock)) k_ ∧ k_ ≠ go19) (Kd.R_apart' (HO115.out) (Kd.S_typed HO_5.out) (by decide)) (fun k_ hk => ⟨hk.1.2, fun e_ => (hk.2) (by rw [e_]; rfl)⟩))) (fun _ h_ => Or.inr (h_)))) (fun _ hk => hk) (fun k_ hk_ => ((Kd.R_mono (ok' := fun k_ => ((fun k_ => some k_ ≠ (v108 : Value).ownBlock)) k_ ∧ k_ ≠ go19) (Kd.R_apart' (HO115.out) (Kd.S_typed HO_5.out) (by decide)) (fun k_ hk => ⟨hk.1.2, fun e_ => (hk.2) (by rw [e_]; rfl)⟩))).1 k_ hk_.symm); have hx23_0 := hcc23 0 _ rfl; (try simp only [show ((Kd.slice 3 (Kd.int .i64))).sz = 1 from rfl, Nat.mul_one, Nat.add_zero] at hx23_0); have hf23_0 := hfr23 0; (try simp only [show ((Kd.slice 3 (Kd.int .i64))).sz = 1 from rfl, Nat.mul_one, Nat.add_zero] at hf23_0); clear hcl23 hcc23 hfr23; (try clear hM23); clear hoki23 hH23; (try simp only [show ((Kd.slice 3 (Kd.int .i64))).sz = 1 from rfl, Nat.mul_one, Nat.add_zero] at HP23)) | ((with_reducible refine gate_store (t := 30) (p := 37) rfl ?_); refine store_event (t := 30) (p := 37) (v := ?vo_w24) (w1 := (w20.setCell ⟨go19, (x29_1 : Int).toNat, none⟩ (.slice Ao22 y113.length co22))) ?hg ?ho ?hn ?hr ?_; (case ho => rfl); (case hg => rfl); (case hn => rfl); (case hr => first | (go_simp; done) | (go_simp; rfl)); intro w24 hw; have hg : w20.grownBy w24 (some go19) := (by rw [hw]; exact HP23.2); have hp_ : Kd.S (Kd.slice 3 (Kd.int .i64)) 30 w24 w.heap.size (fun k_ => some k_ ≠ (v108 : Value).ownBlock) (.slice (some ⟨go19, 0, none⟩) x5_1.length co12) y116 := (by rw [hw, Ny116.out]; exact HP23.1); clear HP23; have n0_ := Aside0.mk (Kd.R_over' (v := (.slice (some ⟨go19, 0, none⟩) x5_1.length co12)) (by (with_reducible repeat (first | apply Kd.R_alloc | apply Kd.R_drewN | apply Kd.R_drew)); exact HO_4.out) (Kd.S_typed HO_5.out) (by decide) hg); have n1_ := Aside0.mk (hp_); have n2_ := Aside0.mk ((by rw [hw]; exact below_set (HB.out) GB19.out : Below w.heap.size w w24)); clear HO_4; clear HO_5; clear HB; clear HO115; have HO_4 := n0_; have HO_5 := n1_; have HB := n2_; clear n0_ n1_ n2_; clear hg hw hp_))
                        (try simp only [← hl5_1])
                        go_roundg k1
                        case measure => have := HK1.out; omega
                        case rel => exact ⟨(y116), (wrap64 (x29_1 + 1)), (by first | rfl | (simp; done) | (simp [*]; done)), H', ⟨by have := HK1.out; omega⟩, ⟨by (try simp only [hl5_1]); (with_reducible repeat (first | apply Kd.R_alloc | apply Kd.R_drewN | apply Kd.R_drew)); exact Kd.R_mono HO_4.out (fun _ hk => trivial)⟩, ⟨by (try simp only [hl5_1]); (with_reducible repeat (first | apply Kd.S_alloc | apply Kd.S_drewN | apply Kd.S_drew)); exact HO_5.out⟩, ⟨by repeat (first | (with_reducible first | exact HB.out | apply below_alloc | apply pw_below_drewN | apply below_drew1) | exact HB.out)⟩⟩
                      · rw [if_neg c18] at H
                        exact absurd H (by simp)
                    · rw [if_neg c17] at H
                      exact absurd H (by simp)
                  · rw [if_neg c16] at H
                    exact absurd H (by simp)
                · rw [if_neg c15] at H
                  exact absurd H (by simp)
              · rw [if_neg c13] at H
                have c13b0 : decide (x29_1 < (y110.length : Int)) = false := decide_eq_false c13
                (try (have c13b0h := c13b0; simp only [hl5_1] at c13b0h))
                clear c13
                by_cases c25 : 0 < (x5_1.length : Int)
                · rw [if_pos c25] at H
                  have c25b0 : decide (0 < (x5_1.length : Int)) = true := decide_eq_true c25
                  (try (have c25b0h := c25b0; simp only [hl5_1] at c25b0h))
                  have c25b1 : decide (0 < x5_1.length) = true := decide_eq_true (by omega)
                  (try (have c25b1h := c25b1; simp only [hl5_1] at c25b1h))
                  clear c25
                  by_cases c26 : 0 < ((rd_L1 x5_1 0).length : Int)
                  · rw [if_pos c26] at H
                    have c26b0 : decide (0 < ((rd_L1 x5_1 0).length : Int)) = true := decide_eq_true c26
                    (try (have c26b0h := c26b0; simp only [hl5_1] at c26b0h))
                    have c26b1 : decide (0 < (rd_L1 x5_1 0).length) = true := decide_eq_true (by omega)
                    (try (have c26b1h := c26b1; simp only [hl5_1] at c26b1h))
                    clear c26
                    obtain ⟨y118, hy118⟩ : ∃ y_ : List Int, y_ = ((rd_L1 x5_1 0).set (0 : Int).toNat 1) := ⟨_, rfl⟩
                    replace H : (spec_CountByRecords.l1 k1 a0 y107 (x5_1.set (0 : Int).toNat y118) 0) = some (r1, r2) := by first | (rw [hy118]; with_reducible exact H) | (have H2_ := (Option.bind_some _ _).symm.trans H; rw [hy118]; with_reducible exact H2_) | (have H2_ := (Option.bind_some _ _).symm.trans H; with_reducible exact H2_) | with_reducible exact H | (rw [hy118]; exact H) | exact H
                    have Ny118 := Aside0.mk hy118
                    clear hy118
                    obtain ⟨y120, hy120⟩ : ∃ y_ : List (List Int), y_ = (x5_1.set (0 : Int).toNat y118) := ⟨_, rfl⟩
                    replace H : (spec_CountByRecords.l1 k1 a0 y107 y120 0) = some (r1, r2) := by first | (rw [hy120]; with_reducible exact H) | (have H2_ := (Option.bind_some _ _).symm.trans H; rw [hy120]; with_reducible exact H2_) | (have H2_ := (Option.bind_some _ _).symm.trans H; with_reducible exact H2_) | with_reducible exact H | (rw [hy120]; exact H) | exact H
                    have Ny120 := Aside0.mk hy120
                    clear hy120
                    have H' := Aside0.mk H
                    clear H
                    have p117 : 0 ≤ (0 : Int) := (by omega)
                    have q117 : 0 < (x5_1.length : Int) := of_decide_eq_true (by first | (with_reducible assumption) | assumption)
                    obtain ⟨ad117, A117_0, c117_0, e117, hx117_0, hl117_0, hi117_0⟩ := at_L1 (Kd.S_reads' HO_5.out).2.2 0 p117 q117
                    cases e117
                    obtain ⟨ce117, hce117, hMe117, hcc117⟩ := Kd.S_get HO_5.out [] 0 p117 (by first | exact q117 | exact of_decide_eq_true (by first | (with_reducible assumption) | assumption) | (have e_ := (Kd.S_reads' HO_5.out).1; omega))
                    obtain ⟨ve117_0, rfl, ge117_0⟩ := hMe117
                    have hv117_0 := hcc117 0 _ rfl
                    rw [Nat.add_zero, show ((Kd.slice 3 (Kd.int .i64))).sz = 1 from rfl, Nat.mul_one] at hv117_0
                    replace hv117_0 := Option.some.inj (hv117_0.symm.trans hx117_0)
                    rw [hv117_0] at ge117_0
                    have HL117_0 := Aside0.mk (show Kd.R (Kd.int .i64) 3 _ _ _ _ (rd_L1 x5_1 0) from ge117_0)
                    clear hv117_0 ge117_0
                    have HX117_0 := Aside0.mk hx117_0
                    clear hcc117 hce117
                    have qi117 : (0 < x5_1.length) = True := eq_true (by omega)
                    (try rw [show ((0 : Int)).toNat = 0 from rfl] at hx117_0)
                    (try rw [Addr.add_zero'] at hx117_0)
                    have HR117_0 := Aside0.mk hi117_0
                    have HC117_0 := Aside0.mk hl117_0
                    clear hi117_0 hl117_0
                    replace p117 := eq_true p117
                    replace q117 := eq_true q117
                    have p27 : 0 ≤ (0 : Int) := (by omega)
                    have q27 : (0 : Int) < (((rd_L1 x5_1 0).length : Int) : Int) := of_decide_eq_true (by first | (with_reducible assumption) | assumption)
                    have qi27 : (0 < (rd_L1 x5_1 0).length) = True := eq_true (by omega)
                    obtain ⟨go27, co27, eo27, gb27, gl27, cl27, HG27⟩ := Kd.R_form HL117_0.out (by omega)
                    (first | cases eo27 | (injection eo27 with ea_ en_ ec_; (first | subst ea_ | (injection ea_ with ea_; subst ea_)); subst ec_; clear en_))
                    have GB27 := Aside0.mk gb27
                    have GG27 := Aside0.mk HG27
                    clear gb27 gl27 HG27
                    obtain ⟨hx27_0, hf27_0⟩ := Kd.R_celln 0 HL117_0.out (0 : Int) p27 q27
                    (try rw [show ((0 : Int)).toNat = 0 from rfl] at hx27_0)
                    (try simp only [Nat.reduceMul, Nat.zero_mul, Nat.zero_add, Nat.reduceAdd] at hx27_0)
                    (try rw [show ((0 : Int)).toNat = 0 from rfl] at hf27_0)
                    (try simp only [Nat.reduceMul, Nat.zero_mul, Nat.zero_add, Nat.reduceAdd] at hf27_0)
                    replace p27 := eq_true p27
                    replace q27 := eq_true q27
                    have hq28 : (0 : Int) < (x5_1.length : Int) := (by have h_ : (0 : Int) < ((x5_1.length : Int) : Int) := of_decide_eq_true (by first | (with_reducible assumption) | assumption); first | exact h_ | (have e_ := (Kd.S_reads' HO_5.out).1; omega) | simpa only [List.length_set, List.length_set] using h_)
                    obtain ⟨oki28, ce28, hcl28, hM28, hcc28, hok28, hbk28⟩ := Kd.S_borrow HO_5.out [] (0 : Int) (by omega) hq28
                    obtain ⟨ve28_0, rfl, ge28_0⟩ := hM28
                    have hv28 := hcc28 0 _ rfl
                    rw [Nat.add_zero, show ((Kd.slice 3 (Kd.int .i64))).sz = 1 from rfl, Nat.mul_one] at hv28
                    replace hv28 := Option.some.inj (hv28.symm.trans HX117_0.out)
                    subst hv28
                    clear hcc28 hcl28
                    replace ge28_0 := (show Kd.R (Kd.int .i64) 3 _ _ _ _ (rd_L1 x5_1 0) from ge28_0)
                    have HP28 := Kd.R_putg ge28_0 (0 : Int) 1
                    go_wp2_with (first | ((with_reducible refine gate_store (t := 3) (p := 42) rfl ?_); refine store_event (t := 3) (p := 42) (v := ?vo_w29) (w1 := (wr.setCell ⟨go27, 0, none⟩ (.int .i64 1))) ?hg ?ho ?hn ?hr ?_; (case ho => rfl); (case hg => rfl); (case hn => rfl); (case hr => first | (go_simp; done) | (go_simp; rfl)); intro w29 hw; have hg : wr.grownBy w29 (some go27) := (by rw [hw]; exact HP28.2); have hz_ : Kd.R (Kd.int .i64) 3 w29 w.heap.size oki28 (.slice (some ⟨go27, 0, none⟩) (rd_L1 x5_1 0).length c117_0) y118 := (by rw [hw, Ny118.out]; exact HP28.1); have hp_ : Kd.S (Kd.slice 3 (Kd.int .i64)) 30 w29 w.heap.size (fun k_ => some k_ ≠ (v108 : Value).ownBlock) (.slice (some ad117) x5_1.length co12) y120 := (by rw [Ny120.out]; exact hbk28 hg (fun k_ e_ => by injection e_ with e_; subst e_; exact ge28_0.1 _ rfl) (Kd.M_row hz_)); have hm_ := Kd.R_mono hz_ hok28; clear HP28 hbk28; have n0_ := Aside0.mk (Kd.R_grown1 (by (with_reducible repeat (first | apply Kd.R_alloc | apply Kd.R_drewN | apply Kd.R_drew)); exact HO_4.out) rfl hg ((HL117_0.out.1 _ rfl).1)); have n1_ := Aside0.mk (hp_); have n2_ := Aside0.mk ((by rw [hw]; exact below_set (HB.out) GB27.out : Below w.heap.size w w29)); have n3_ := Aside0.mk (hm_); have n4_ := Aside0.mk ((Kd.R_reads' hm_).2.1); clear HO_4; clear HO_5; clear HB; clear HL117_0; have HO_4 := n0_; have HO_5 := n1_; have HB := n2_; have HL154 := n3_; have HC119 := n4_; clear n0_ n1_ n2_ n3_ n4_; clear hg hw hp_ hz_ hm_ hok28))
                    go_loopg [5, 7] k1 (fun kq v5 v7 w' => ∃ (x4_2 : List Int) (x5_2 : List (List Int)) (x7_2 : Int), v7 = .int .i64 x7_2 ∧ Aside0 (spec_CountByRecords.l1 kq a0 x4_2 x5_2 x7_2 = some (r1, r2)) ∧ Aside0 (kq ≤ k1) ∧ Aside0 (Kd.R (Kd.int .i64) 3 w' w.heap.size (fun _ => True) v108 x4_2) ∧ Aside0 (Kd.S (Kd.slice 3 (Kd.int .i64)) 30 w' w.heap.size (fun k_ => some k_ ≠ (v108 : Value).ownBlock) v5 x5_2) ∧ Aside0 (Below w.heap.size w w'))
                    case atStart => exact ⟨(y107), (y120), (0), (by first | rfl | (simp; done) | (simp [*]; done)), H', ⟨Nat.le_refl _⟩, ⟨by (try simp only [hl5_1]); (with_reducible repeat (first | apply Kd.R_alloc | apply Kd.R_drewN | apply Kd.R_drew)); exact HO_4.out⟩, ⟨by (try simp only [hl5_1]); (with_reducible repeat (first | apply Kd.S_alloc | apply Kd.S_drewN | apply Kd.S_drew)); exact HO_5.out⟩, ⟨by repeat (first | (with_reducible first | exact HB.out | apply below_alloc | apply pw_below_drewN | apply below_drew1) | exact HB.out)⟩⟩
                    case round =>
                      clear H'
                      try clear c1
                      try clear p1
                      try clear q1
                      try clear hx1
                      try clear qi1
                      try clear hf1
                      try clear c2
                      try clear p2
                      try clear q2
                      try clear hx2
                      try clear qi2
                      try clear hf2
                      try clear c3
                      try clear c4
                      try clear c5
                      try clear c5b0
                      try clear c5b1
                      try clear c6
                      try clear c6b0
                      try clear c6b1
                      try clear p6
                      try clear c7
                      try clear c7b0
                      try clear c7b1
                      try clear c11
                      try clear p11
                      try clear q11
                      try clear hx11
                      try clear qi11
                      try clear c13
                      try clear c13b0
                      try clear c15
                      try clear c15b0
                      try clear c15b1
                      try clear c16
                      try clear c16b0
                      try clear c16b1
                      try clear c17
                      try clear c17b0
                      try clear c18
                      try clear c18b0
                      try clear c19
                      try clear p19
                      try clear q19
                      try clear hx19
                      try clear hf19
                      try clear c23
                      try clear hx23
                      try clear hf23
                      try clear c25
                      try clear c25b0
                      try clear c25b1
                      try clear c26
                      try clear c26b0
                      try clear c26b1
                      try clear p27
                      try clear q27
                      try clear hx27
                      try clear qi27
                      try clear hf27
                      try clear c28
                      try clear q28
                      try clear hx117_0
                      try clear hx19_0
                      try clear hx23_0
                      try clear hx27_0
                      try clear p117
                      try clear p19
                      try clear p2
                      try clear p27
                      try clear p6
                      try clear q117
                      try clear q19
                      try clear q27
                      obtain ⟨x4_2, x5_2, x7_2, rfl, HA, HK2, HO_4, HO_5, HB⟩ := hrel
                      cases gk with
                      | zero => exact absurd HA.out (by simp [spec_CountByRecords.l1])
                      | succ k2 =>
                        have H := HA.out
                        clear HA
                        simp only [spec_CountByRecords.l1] at H
                        by_cases c30 : x7_2 < a0
                        · rw [if_pos c30] at H
                          have c30b0 : decide (x7_2 < a0) = true := decide_eq_true c30
                          clear c30
                          obtain ⟨ji31, hji31⟩ : ∃ j_ : Int, (wrap64 (a0 + 1)) = j_ := ⟨_, rfl⟩
                          replace H : (if 0 ≤ (ji31) then (if (ji31 : Int).toNat ≤ 11728124029610 then ((some (List.replicate (ji31 : Int).toNat [] : List (List Int))).bind fun y121 => (spec_CountByRecords.l2 k2 a0 x4_2 x5_2 x7_2 y121 (y121.length : Int) 0)) else (none)) else (none)) = some (r1, r2) := by first | (rw [hji31] at H; exact H) | (simp only [hji31] at H ⊢; exact H)
                          try clear hji4w
                          try clear hji14w
                          have hji31w : (IntKind.i64.wrap (a0 + 1)) = ji31 := (i64_w _).trans hji31
                          by_cases c32 : 0 ≤ (ji31)
                          · rw [if_pos c32] at H
                            have c32b0 := eq_true c32
                            have c32b1 : decide (0 ≤ (ji31)) = true := decide_eq_true c32
                            clear c32
                            by_cases c33 : (ji31 : Int).toNat ≤ 11728124029610
                            · rw [if_pos c33] at H
                              have c33b0 := eq_true c33
                              have c33b1 : decide ((ji31 : Int).toNat ≤ 11728124029610) = true := decide_eq_true c33
                              clear c33
                              obtain ⟨y121, hy121⟩ : ∃ y_ : List (List Int), y_ = (List.replicate (ji31 : Int).toNat []) := ⟨_, rfl⟩
                              replace H : (spec_CountByRecords.l2 k2 a0 x4_2 x5_2 x7_2 y121 (y121.length : Int) 0) = some (r1, r2) := by first | (rw [hy121]; with_reducible exact H) | (have H2_ := (Option.bind_some _ _).symm.trans H; rw [hy121]; with_reducible exact H2_) | (have H2_ := (Option.bind_some _ _).symm.trans H; with_reducible exact H2_) | with_reducible exact H | (rw [hy121]; exact H) | exact H
                              have Ny121 := Aside0.mk hy121
                              clear hy121
                              have H' := Aside0.mk H
                              clear H
                              go_wp2_with (first | ((with_reducible refine gate_dst (N := 50) rfl ?_); refine Kd.S_make (Kd.slice 3 (Kd.int .i64)) _ 30 rfl (N := 50) rfl 37 _ _ rfl ji31 rfl rfl Try.underlying37 (.slice none 0 0) 24 info30 rfl (by decide) (by omega) [] (ok := fun _ => True) (okp := fun _ => True) ⟨_, rfl, Kd.R_nil _ _ _ _ _⟩ (fun _ hk => hk) trivial (of_decide_eq_true (by first | (with_reducible assumption) | assumption)) (Nat.le_trans (Nat.mul_le_mul_right _ (of_decide_eq_true (by first | (with_reducible assumption) | assumption) : ji31.toNat ≤ 11728124029610)) (by omega)) (Below.refl _ _) (Nat.le_refl _) ?_; intro v122 w34 ho35 hb hg_ hnew_; clear hg_ hnew_; (first | rw [← Ny121.out] at ho35 | (simp only [Int.reduceToNat] at ho35; rw [← Ny121.out] at ho35)); obtain ⟨NN, hy_, hx_⟩ : ∃ n : Nat, (Kd.S (Kd.slice 3 (Kd.int .i64)) 30 w34 w.heap.size (fun k_ => some k_ ≠ (v108 : Value).ownBlock ∧ k_ < n) u5 x5_2) ∧ (Kd.S (Kd.slice 3 (Kd.int .i64)) 30 w34 w.heap.size (fun k_ => (True ∧ some k_ ≠ (v108 : Value).ownBlock) ∧ n ≤ k_) v122 y121) := ⟨_, Kd.S_old (by (with_reducible repeat (first | apply Kd.S_alloc | apply Kd.S_drewN | apply Kd.S_drew)); exact HO_5.out) hb, Kd.S_lower (Kd.S_mono (Kd.S_bound (Kd.S_new' ho35 (Kd.R_lt (by (with_reducible repeat (first | apply Kd.R_alloc | apply Kd.R_drewN | apply Kd.R_drew)); exact HO_4.out)))) (fun _ hk => ⟨hk.1, hk.2.1⟩)) (below_size (by repeat (first | (with_reducible first | exact HB.out | apply below_alloc | apply pw_below_drewN | apply below_drew1) | exact HB.out)))⟩; have n0_ := Aside0.mk (Kd.R_below (by (with_reducible repeat (first | apply Kd.R_alloc | apply Kd.R_drewN | apply Kd.R_drew)); exact HO_4.out) hb); have n1_ := Aside0.mk hy_; have n2_ := Aside0.mk hx_; have n3_ := Aside0.mk (below_step (by repeat (first | (with_reducible first | exact HB.out | apply below_alloc | apply pw_below_drewN | apply below_drew1) | exact HB.out)) hb); clear HO_4; clear HO_5; clear HB; have HO_4 := n0_; have HO_5 := n1_; have HO123 := n2_; have HB := n3_; clear n0_ n1_ n2_ n3_; clear hb ho35; obtain ⟨Ao36, co36, eo36⟩ := Kd.S_slice HO123.out; subst eo36))
                              go_loopg [53] k2 (fun kq v53 w' => ∃ (x8_3 : List (List Int)) (x53_3 : Int), v53 = .int .i64 x53_3 ∧ Aside0 (spec_CountByRecords.l2 kq a0 x4_2 x5_2 x7_2 x8_3 (y121.length : Int) x53_3 = some (r1, r2)) ∧ Aside0 (kq ≤ k2) ∧ Aside0 (Kd.R (Kd.int .i64) 3 w' w.heap.size (fun _ => True) v108 x4_2) ∧ Aside0 (Kd.S (Kd.slice 3 (Kd.int .i64)) 30 w' w.heap.size (fun k_ => some k_ ≠ (v108 : Value).ownBlock ∧ k_ < NN) u5 x5_2) ∧ Aside0 (Kd.S (Kd.slice 3 (Kd.int .i64)) 30 w' w.heap.size (fun k_ => some k_ ≠ (v108 : Value).ownBlock ∧ NN ≤ k_) (.slice Ao36 y121.length co36) x8_3) ∧ Aside0 (Below w.heap.size w w'))
                              case atStart => exact ⟨(y121), (0), (by first | rfl | (simp; done) | (simp [*]; done)), H', ⟨Nat.le_refl _⟩, ⟨by (try simp only [hl5_1]); (with_reducible repeat (first | apply Kd.R_alloc | apply Kd.R_drewN | apply Kd.R_drew)); exact HO_4.out⟩, ⟨by (try simp only [hl5_1]); (with_reducible repeat (first | apply Kd.S_alloc | apply Kd.S_drewN | apply Kd.S_drew)); exact HO_5.out⟩, ⟨by (try simp only [hl5_1]); (with_reducible repeat (first | apply Kd.S_alloc | apply Kd.S_drewN | apply Kd.S_drew)); exact Kd.S_mono HO123.out (fun _ hk => ⟨hk.1.2, hk.2⟩)⟩, ⟨by repeat (first | (with_reducible first | exact HB.out | apply below_alloc | apply pw_below_drewN | apply below_drew1) | exact HB.out)⟩⟩
                              case round =>
                                clear H'
                                try clear c1
                                try clear p1
                                try clear q1
                                try clear hx1
                                try clear qi1
                                try clear hf1
                                try clear c2
                                try clear p2
                                try clear q2
                                try clear hx2
                                try clear qi2
                                try clear hf2
                                try clear c3
                                try clear c4
                                try clear c5
                                try clear c5b0
                                try clear c5b1
                                try clear c6
                                try clear c6b0
                                try clear c6b1
                                try clear p6
                                try clear c7
                                try clear c7b0
                                try clear c7b1
                                try clear c11
                                try clear p11
                                try clear q11
                                try clear hx11
                                try clear qi11
                                try clear c13
                                try clear c13b0
                                try clear c15
                                try clear c15b0
                                try clear c15b1
                                try clear c16
                                try clear c16b0
                                try clear c16b1
                                try clear c17
                                try clear c17b0
                                try clear c18
                                try clear c18b0
                                try clear c19
                                try clear p19
                                try clear q19
                                try clear hx19
                                try clear hf19
                                try clear c23
                                try clear hx23
                                try clear hf23
                                try clear c25
                                try clear c25b0
                                try clear c25b1
                                try clear c26
                                try clear c26b0
                                try clear c26b1
                                try clear p27
                                try clear q27
                                try clear hx27
                                try clear qi27
                                try clear hf27
                                try clear c28
                                try clear q28
                                try clear c30
                                try clear c30b0
                                try clear c32
                                try clear c32b0
                                try clear c32b1
                                try clear c33
                                try clear c33b0
                                try clear c33b1
                                try clear hx117_0
                                try clear hx19_0
                                try clear hx23_0
                                try clear hx27_0
                                try clear p1
                                try clear p11
                                try clear p117
                                try clear p19
                                try clear p2
                                try clear p27
                                try clear p6
                                try clear q1
                                try clear q11
                                try clear q117
                                try clear q19
                                try clear q2
                                try clear q27
                                try clear q28
                                obtain ⟨x8_3, x53_3, rfl, HA, HK3, HO_4, HO_5, HO_8, HB⟩ := hrel
                                have hl8_3 := (Kd.S_reads' HO_8.out).1
                                rw [hl8_3] at HO_8
                                (try simp only [hl8_3])
                                (try simp only [hl8_3] at HO_4)
                                (try simp only [hl8_3] at HO_5)
                                cases gk with
                                | zero => exact absurd HA.out (by simp [spec_CountByRecords.l2])
                                | succ k3 =>
                                  have H := HA.out
                                  clear HA
                                  simp only [spec_CountByRecords.l2] at H
                                  by_cases c37 : x53_3 < (y121.length : Int)
                                  · rw [if_pos c37] at H
                                    have c37b0 : decide (x53_3 < (y121.length : Int)) = true := decide_eq_true c37
                                    (try (have c37b0h := c37b0; simp only [hl5_1] at c37b0h))
                                    (try (have c37b0h := c37b0; simp only [hl8_3] at c37b0h))
                                    clear c37
                                    obtain ⟨ji38, hji38⟩ : ∃ j_ : Int, (wrap64 (a0 + 1)) = j_ := ⟨_, rfl⟩
                                    replace H : (if 0 ≤ (ji38) then (if (ji38 : Int).toNat ≤ 35184372088832 then (if 0 ≤ x53_3 then (if x53_3 < (x8_3.length : Int) then (spec_CountByRecords.l2 k3 a0 x4_2 x5_2 x7_2 (x8_3.set (x53_3 : Int).toNat (List.replicate (ji38 : Int).toNat 0)) (y121.length : Int) (wrap64 (x53_3 + 1))) else (none)) else (none)) else (none)) else (none)) = some (r1, r2) := by first | (rw [hji38] at H; exact H) | (simp only [hji38] at H ⊢; exact H)
                                    try clear hji4w
                                    try clear hji14w
                                    try clear hji31w
                                    have hji38w : (IntKind.i64.wrap (a0 + 1)) = ji38 := (i64_w _).trans hji38
                                    by_cases c39 : 0 ≤ (ji38)
                                    · rw [if_pos c39] at H
                                      have c39b0 := eq_true c39
                                      have c39b1 : decide (0 ≤ (ji38)) = true := decide_eq_true c39
                                      clear c39
                                      by_cases c40 : (ji38 : Int).toNat ≤ 35184372088832
                                      · rw [if_pos c40] at H
                                        have c40b0 := eq_true c40
                                        have c40b1 : decide ((ji38 : Int).toNat ≤ 35184372088832) = true := decide_eq_true c40
                                        clear c40
                                        obtain ⟨y124, hy124⟩ : ∃ y_ : List Int, y_ = (List.replicate (ji38 : Int).toNat 0) := ⟨_, rfl⟩
                                        replace H : (if 0 ≤ x53_3 then (if x53_3 < (x8_3.length : Int) then (spec_CountByRecords.l2 k3 a0 x4_2 x5_2 x7_2 (x8_3.set (x53_3 : Int).toNat y124) (y121.length : Int) (wrap64 (x53_3 + 1))) else (none)) else (none)) = some (r1, r2) := by first | (rw [hy124]; with_reducible exact H) | (have H2_ := (Option.bind_some _ _).symm.trans H; rw [hy124]; with_reducible exact H2_) | (have H2_ := (Option.bind_some _ _).symm.trans H; with_reducible exact H2_) | with_reducible exact H | (rw [hy124]; exact H) | exact H
                                        have Ny124 := Aside0.mk hy124
                                        clear hy124
                                        by_cases c41 : 0 ≤ x53_3
                                        · rw [if_pos c41] at H
                                          have c41b0 : decide (0 ≤ x53_3) = true := decide_eq_true c41
                                          clear c41
                                          by_cases c42 : x53_3 < (x8_3.length : Int)
                                          · rw [if_pos c42] at H
                                            have c42b0 : decide (x53_3 < (x8_3.length : Int)) = true := decide_eq_true c42
                                            (try (have c42b0h := c42b0; simp only [hl5_1] at c42b0h))
                                            (try (have c42b0h := c42b0; simp only [hl8_3] at c42b0h))
                                            clear c42
                                            obtain ⟨y127, hy127⟩ : ∃ y_ : List (List Int), y_ = (x8_3.set (x53_3 : Int).toNat y124) := ⟨_, rfl⟩
                                            replace H : (spec_CountByRecords.l2 k3 a0 x4_2 x5_2 x7_2 y127 (y121.length : Int) (wrap64 (x53_3 + 1))) = some (r1, r2) := by first | (rw [hy127]; with_reducible exact H) | (have H2_ := (Option.bind_some _ _).symm.trans H; rw [hy127]; with_reducible exact H2_) | (have H2_ := (Option.bind_some _ _).symm.trans H; with_reducible exact H2_) | with_reducible exact H | (rw [hy127]; exact H) | exact H
                                            have Ny127 := Aside0.mk hy127
                                            clear hy127
                                            have H' := Aside0.mk H
                                            clear H
                                            go_wp2_with (first | ((with_reducible refine gate_dst (N := 60) rfl ?_); refine Kd.R_make (Kd.int .i64) _ 3 rfl (N := 60) rfl 30 _ _ rfl ji38 rfl rfl Try.underlying30 (.int .i64 0) 8 info3 rfl (by decide) (by omega) 0 (ok := fun _ => True) (okp := fun _ => True) rfl (fun _ hk => hk) trivial (of_decide_eq_true (by first | (with_reducible assumption) | assumption)) (Nat.le_trans (Nat.mul_le_mul_right _ (of_decide_eq_true (by first | (with_reducible assumption) | assumption) : ji38.toNat ≤ 35184372088832)) (by omega)) (Below.refl _ _) (Nat.le_refl _) ?_; intro v125 w44 ho45 hb hg_ hnew_; clear hg_ hnew_; (first | rw [← Ny124.out] at ho45 | (simp only [Int.reduceToNat] at ho45; rw [← Ny124.out] at ho45)); have hN_ : NN ≤ _ := zS_floor (n := NN) (p := fun k_ => some k_ ≠ (v108 : Value).ownBlock) hb (by (with_reducible repeat (first | apply Kd.S_alloc | apply Kd.S_drewN | apply Kd.S_drew)); exact HO_8.out) (by have h0_ : 0 ≤ x53_3 := of_decide_eq_true (by first | (with_reducible assumption) | assumption); have h1_ : x53_3 < (x8_3.length : Int) := of_decide_eq_true (by first | (with_reducible assumption) | assumption); omega); have n0_ := Aside0.mk (Kd.R_elder' (by (with_reducible repeat (first | apply Kd.R_alloc | apply Kd.R_drewN | apply Kd.R_drew)); exact HO_4.out) (Kd.R_base ho45) hb); have n1_ := Aside0.mk (Kd.S_elder' (by (with_reducible repeat (first | apply Kd.S_alloc | apply Kd.S_drewN | apply Kd.S_drew)); exact HO_5.out) (Kd.R_base ho45) hb); have n2_ := Aside0.mk (Kd.S_elder' (by (with_reducible repeat (first | apply Kd.S_alloc | apply Kd.S_drewN | apply Kd.S_drew)); exact HO_8.out) (Kd.R_base ho45) hb); have n3_ := Aside0.mk (Kd.R_lower (Kd.R_mono (ok' := fun k_ => (True ∧ some k_ ≠ (v108 : Value).ownBlock) ∧ NN ≤ k_) (Kd.R_bound (Kd.R_new' ho45 (Kd.R_lt (by (with_reducible repeat (first | apply Kd.R_alloc | apply Kd.R_drewN | apply Kd.R_drew)); exact HO_4.out)))) (fun _ hk => ⟨hk.1, Nat.le_trans hN_ hk.2.1⟩)) (below_size (by repeat (first | (with_reducible first | exact HB.out | apply below_alloc | apply pw_below_drewN | apply below_drew1) | exact HB.out)))); have n4_ := Aside0.mk (below_step (by repeat (first | (with_reducible first | exact HB.out | apply below_alloc | apply pw_below_drewN | apply below_drew1) | exact HB.out)) hb); clear HO_4; clear HO_5; clear HO_8; clear HB; have HO_4 := n0_; have HO_5 := n1_; have HO_8 := n2_; have HO126 := n3_; have HB := n4_; clear n0_ n1_ n2_ n3_ n4_; clear hb ho45; have p43 : 0 ≤ (x53_3 : Int) := of_decide_eq_true (by first | (with_reducible assumption) | assumption); have q43 : (x53_3 : Int) < ((x8_3.length : Int) : Int) := of_decide_eq_true (by first | (with_reducible assumption) | assumption); obtain ⟨go43, co43, eo43, gb43, gl43, cl43, HG43⟩ := Kd.S_form HO_8.out (by omega); (first | cases eo43 | (injection eo43 with ea_ en_ ec_; (first | subst ea_ | (injection ea_ with ea_; subst ea_)); subst ec_; clear en_)); have GB43 := Aside0.mk gb43; have GG43 := Aside0.mk HG43; clear gb43 gl43 HG43; obtain ⟨_, ce43, hcl43, hM43, hcc43, hfr43, _, _⟩ := Kd.S_elem HO_8.out [] (x53_3 : Int) p43 q43; obtain ⟨ve43_0, rfl, ge43_0⟩ := hM43; have hx43_0 := hcc43 0 _ rfl; have hf43_0 := hfr43 0; (try simp only [show ((Kd.slice 3 (Kd.int .i64))).sz = 1 from rfl, Nat.mul_one, Nat.add_zero] at hx43_0); (try simp only [show ((Kd.slice 3 (Kd.int .i64))).sz = 1 from rfl, Nat.mul_one, Nat.add_zero] at hf43_0); clear hcl43 hcc43 hfr43; (try clear hM43); replace p43 := eq_true p43; replace q43 := eq_true q43; obtain ⟨Ao46, co46, eo46⟩ := Kd.R_slice HO126.out; subst eo46; have n_ := Aside0.mk (Kd.S_mono (ok' := (fun k_ => some k_ ≠ (v108 : Value).ownBlock ∧ NN ≤ k_ ∧ some k_ ≠ (.slice Ao46 y124.length co46 : Value).ownBlock)) HO_8.out (fun k_ hk => ⟨hk.1.1, ⟨hk.1.2, hk.2⟩⟩)); clear HO_8; have HO_8 := n_; clear n_; have HX47 := Aside0.mk (show Kd.S (Kd.slice 3 (Kd.int .i64)) 30 w44 w.heap.size (fun k_ => ((fun k_ => some k_ ≠ (v108 : Value).ownBlock ∧ NN ≤ k_)) k_ ∧ ¬ ((fun k_ => some k_ = (.slice Ao46 y124.length co46 : Value).ownBlock)) k_) (.slice (some ⟨go43, 0, none⟩) x8_3.length co36) x8_3 from (by (with_reducible repeat (first | apply Kd.S_alloc | apply Kd.S_drewN | apply Kd.S_drew)); exact Kd.S_mono HO_8.out (fun k_ hk => ⟨⟨hk.1, hk.2.1⟩, fun e_ => hk.2.2 e_⟩))); obtain ⟨oki47, ce47, hcl47, hM47, hcc47, hfr47, hoki47, hH47⟩ := Kd.S_elem HX47.out [] (x53_3 : Int) (of_decide_eq_true (by first | (with_reducible assumption) | assumption)) (by have h_ : (x53_3 : Int) < ((x8_3.length : Int) : Int) := of_decide_eq_true (by first | (with_reducible assumption) | assumption); first | exact h_ | (have e_ := (Kd.S_reads' HO_8.out).1; omega) | simpa using h_); obtain ⟨ve47_0, rfl, ge47_0⟩ := hM47; have HP47 := Kd.S_seg hH47 (of_decide_eq_true (by first | (with_reducible assumption) | assumption)) (by have h_ : (x53_3 : Int) < ((x8_3.length : Int) : Int) := of_decide_eq_true (by first | (with_reducible assumption) | assumption); first | exact h_ | (have e_ := (Kd.S_reads' HO_8.out).1; omega) | simpa using h_) (seg := [.slice Ao46 y124.length co46]) (j := 0) (show 1 ≤ 1 from by decide) (x' := y124) (Kd.M_row (Kd.R_mono (Kd.R_tight rfl (Kd.R_mono (ok' := fun k_ => ((fun k_ => some k_ ≠ (v108 : Value).ownBlock ∧ NN ≤ k_)) k_ ∧ k_ ≠ go43) (Kd.R_apart' (HO126.out) (Kd.S_typed HO_8.out) (by decide)) (fun k_ hk => ⟨⟨hk.1.1.2, hk.1.2⟩, fun e_ => (hk.2) (by rw [e_]; rfl)⟩))) (fun _ h_ => Or.inr (h_)))) (fun _ hk => hk) (fun k_ hk_ => ((Kd.R_mono (ok' := fun k_ => ((fun k_ => some k_ ≠ (v108 : Value).ownBlock ∧ NN ≤ k_)) k_ ∧ k_ ≠ go43) (Kd.R_apart' (HO126.out) (Kd.S_typed HO_8.out) (by decide)) (fun k_ hk => ⟨⟨hk.1.1.2, hk.1.2⟩, fun e_ => (hk.2) (by rw [e_]; rfl)⟩))).1 k_ hk_.symm); have hx47_0 := hcc47 0 _ rfl; (try simp only [show ((Kd.slice 3 (Kd.int .i64))).sz = 1 from rfl, Nat.mul_one, Nat.add_zero] at hx47_0); have hf47_0 := hfr47 0; (try simp only [show ((Kd.slice 3 (Kd.int .i64))).sz = 1 from rfl, Nat.mul_one, Nat.add_zero] at hf47_0); clear hcl47 hcc47 hfr47; (try clear hM47); clear hoki47 hH47; (try simp only [show ((Kd.slice 3 (Kd.int .i64))).sz = 1 from rfl, Nat.mul_one, Nat.add_zero] at HP47)) | ((with_reducible refine gate_store (t := 30) (p := 61) rfl ?_); refine store_event (t := 30) (p := 61) (v := ?vo_w48) (w1 := (w44.setCell ⟨go43, (x53_3 : Int).toNat, none⟩ (.slice Ao46 y124.length co46))) ?hg ?ho ?hn ?hr ?_; (case ho => rfl); (case hg => rfl); (case hn => rfl); (case hr => first | (go_simp; done) | (go_simp; rfl)); intro w48 hw; have hg : w44.grownBy w48 (some go43) := (by rw [hw]; exact HP47.2); have hp_ : Kd.S (Kd.slice 3 (Kd.int .i64)) 30 w48 w.heap.size (fun k_ => some k_ ≠ (v108 : Value).ownBlock ∧ NN ≤ k_) (.slice (some ⟨go43, 0, none⟩) x8_3.length co36) y127 := (by rw [hw, Ny127.out]; exact HP47.1); clear HP47; have n0_ := Aside0.mk (Kd.R_over' (v := (.slice (some ⟨go43, 0, none⟩) x8_3.length co36)) (by (with_reducible repeat (first | apply Kd.R_alloc | apply Kd.R_drewN | apply Kd.R_drew)); exact HO_4.out) (Kd.S_typed HO_8.out) (by decide) hg); have n1_ := Aside0.mk (Kd.S_mono (ok' := fun k_ => (some k_ ≠ (v108 : Value).ownBlock ∧ some k_ ≠ (.slice Ao46 y124.length co46 : Value).ownBlock) ∧ k_ < NN) (Kd.S_grown (ok := fun k_ => (some k_ ≠ (v108 : Value).ownBlock ∧ k_ < NN) ∧ some k_ ≠ (.slice Ao46 y124.length co46 : Value).ownBlock) (by (with_reducible repeat (first | apply Kd.S_alloc | apply Kd.S_drewN | apply Kd.S_drew)); exact HO_5.out) hg (by intro k_ hk e_; have e2_ := Option.some.inj e_; have h2_ : NN ≤ go43 := ((Kd.S_R HO_8.out).1 _ rfl).2.1; have h3_ : k_ < NN := hk.1.2; omega)) (fun _ hk => ⟨⟨hk.1.1, hk.2⟩, hk.1.2⟩)); have n2_ := Aside0.mk (hp_); have n3_ := Aside0.mk ((by rw [hw]; exact below_set (HB.out) GB43.out : Below w.heap.size w w48)); clear HO_4; clear HO_5; clear HO_8; clear HB; clear HO126; have HO_4 := n0_; have HO_5 := n1_; have HO_8 := n2_; have HB := n3_; clear n0_ n1_ n2_ n3_; clear hg hw hp_))
                                            (try simp only [← hl8_3])
                                            go_roundg k3
                                            case measure => have := HK1.out; have := HK2.out; have := HK3.out; omega
                                            case rel => exact ⟨(y127), (wrap64 (x53_3 + 1)), (by first | rfl | (simp; done) | (simp [*]; done)), H', ⟨by have := HK1.out; have := HK2.out; have := HK3.out; omega⟩, ⟨by (try simp only [hl5_1]); (try simp only [hl8_3]); (with_reducible repeat (first | apply Kd.R_alloc | apply Kd.R_drewN | apply Kd.R_drew)); exact Kd.R_mono HO_4.out (fun _ hk => trivial)⟩, ⟨by (try simp only [hl5_1]); (try simp only [hl8_3]); (with_reducible repeat (first | apply Kd.S_alloc | apply Kd.S_drewN | apply Kd.S_drew)); exact Kd.S_mono HO_5.out (fun _ hk => ⟨hk.1.1, hk.2⟩)⟩, ⟨by (try simp only [hl5_1]); (try simp only [hl8_3]); (with_reducible repeat (first | apply Kd.S_alloc | apply Kd.S_drewN | apply Kd.S_drew)); exact HO_8.out⟩, ⟨by repeat (first | (with_reducible first | exact HB.out | apply below_alloc | apply pw_below_drewN | apply below_drew1) | exact HB.out)⟩⟩
                                          · rw [if_neg c42] at H
                                            exact absurd H (by simp)
                                        · rw [if_neg c41] at H
                                          exact absurd H (by simp)
                                      · rw [if_neg c40] at H
                                        exact absurd H (by simp)
                                    · rw [if_neg c39] at H
                                      exact absurd H (by simp)
                                  · rw [if_neg c37] at H
                                    have c37b0 : decide (x53_3 < (y121.length : Int)) = false := decide_eq_false c37
                                    (try (have c37b0h := c37b0; simp only [hl5_1] at c37b0h))
                                    (try (have c37b0h := c37b0; simp only [hl8_3] at c37b0h))
                                    clear c37
                                    have H' := Aside0.mk H
                                    clear H
                                    obtain ⟨Ao49, co49, eo49⟩ := Kd.S_slice HO_5.out
                                    subst eo49
                                    go_wp2
                                    go_loopg [65] k3 (fun kq v65 w' => ∃ (x4_4 : List Int) (x8_4 : List (List Int)) (x65_4 : Int), v65 = .int .i64 x65_4 ∧ Aside0 (spec_CountByRecords.l3 kq a0 x4_4 x7_2 x8_4 x5_2 (x5_2.length : Int) x65_4 = some (r1, r2)) ∧ Aside0 (kq ≤ k3) ∧ Aside0 (Kd.R (Kd.int .i64) 3 w' w.heap.size (fun _ => True) v108 x4_4) ∧ Aside0 (Kd.S (Kd.slice 3 (Kd.int .i64)) 30 w' w.heap.size (fun k_ => some k_ ≠ (v108 : Value).ownBlock ∧ NN ≤ k_) (.slice Ao36 x8_3.length co36) x8_4) ∧ Aside0 (Kd.S (Kd.slice 3 (Kd.int .i64)) 30 w' w.heap.size (fun k_ => some k_ ≠ (v108 : Value).ownBlock ∧ k_ < NN) (.slice Ao49 x5_2.length co49) x5_2) ∧ Aside0 (Below w.heap.size w w'))
                                    case atStart => exact ⟨(x4_2), (x8_3), (0), (by first | rfl | (simp; done) | (simp [*]; done)), H', ⟨Nat.le_refl _⟩, ⟨by (try simp only [hl5_1]); (try simp only [hl8_3]); (with_reducible repeat (first | apply Kd.R_alloc | apply Kd.R_drewN | apply Kd.R_drew)); exact HO_4.out⟩, ⟨by (try simp only [hl5_1]); (try simp only [hl8_3]); (with_reducible repeat (first | apply Kd.S_alloc | apply Kd.S_drewN | apply Kd.S_drew)); exact HO_8.out⟩, ⟨by (try simp only [hl5_1]); (try simp only [hl8_3]); (with_reducible repeat (first | apply Kd.S_alloc | apply Kd.S_drewN | apply Kd.S_drew)); exact HO_5.out⟩, ⟨by repeat (first | (with_reducible first | exact HB.out | apply below_alloc | apply pw_below_drewN | apply below_drew1) | exact HB.out)⟩⟩
                                    case round =>
                                      clear H'
                                      try clear c1
                                      try clear p1
                                      try clear q1
                                      try clear hx1
                                      try clear qi1
                                      try clear hf1
                                      try clear c2
                                      try clear p2
                                      try clear q2
                                      try clear hx2
                                      try clear qi2
                                      try clear hf2
                                      try clear c3
                                      try clear c4
                                      try clear p4
                                      try clear q4
                                      try clear hx4
                                      try clear hf4
                                      try clear c5
                                      try clear c5b0
                                      try clear c5b1
                                      try clear c6
                                      try clear c6b0
                                      try clear c6b1
                                      try clear p6
                                      try clear c7
                                      try clear c7b0
                                      try clear c7b1
                                      try clear c11
                                      try clear p11
                                      try clear q11
                                      try clear hx11
                                      try clear qi11
                                      try clear c13
                                      try clear c13b0
                                      try clear c15
                                      try clear c15b0
                                      try clear c15b1
                                      try clear c16
                                      try clear c16b0
                                      try clear c16b1
                                      try clear c17
                                      try clear c17b0
                                      try clear c18
                                      try clear c18b0
                                      try clear c19
                                      try clear p19
                                      try clear q19
                                      try clear hx19
                                      try clear hf19
                                      try clear c23
                                      try clear hx23
                                      try clear hf23
                                      try clear c25
                                      try clear c25b0
                                      try clear c25b1
                                      try clear c26
                                      try clear c26b0
                                      try clear c26b1
                                      try clear p27
                                      try clear q27
                                      try clear hx27
                                      try clear qi27
                                      try clear hf27
                                      try clear c28
                                      try clear q28
                                      try clear c30
                                      try clear c30b0
                                      try clear c32
                                      try clear c32b0
                                      try clear c32b1
                                      try clear c33
                                      try clear c33b0
                                      try clear c33b1
                                      try clear c37
                                      try clear c37b0
                                      try clear c39
                                      try clear c39b0
                                      try clear c39b1
                                      try clear c40
                                      try clear c40b0
                                      try clear c40b1
                                      try clear c41
                                      try clear c41b0
                                      try clear c42
                                      try clear c42b0
                                      try clear c43
                                      try clear p43
                                      try clear q43
                                      try clear hx43
                                      try clear hf43
                                      try clear c44
                                      try clear c46
                                      try clear c47
                                      try clear hx47
                                      try clear hf47
                                      try clear hx117_0
                                      try clear hx19_0
                                      try clear hx23_0
                                      try clear hx27_0
                                      try clear hx43_0
                                      try clear hx47_0
                                      try clear p1
                                      try clear p11
                                      try clear p117
                                      try clear p19
                                      try clear p2
                                      try clear p27
                                      try clear p43
                                      try clear p6
                                      try clear q1
                                      try clear q11
                                      try clear q117
                                      try clear q19
                                      try clear q2
                                      try clear q27
                                      try clear q28
                                      try clear q43
                                      obtain ⟨x4_4, x8_4, x65_4, rfl, HA, HK4, HO_4, HO_8, HO_63, HB⟩ := hrel
                                      have hl8_4 := (Kd.S_reads' HO_8.out).1
                                      rw [hl8_4] at HO_8
                                      (try simp only [hl8_4])
                                      (try simp only [hl8_4] at HO_4)
                                      (try simp only [hl8_4] at HO_63)
                                      cases gk with
                                      | zero => exact absurd HA.out (by simp [spec_CountByRecords.l3])
                                      | succ k4 =>
                                        have H := HA.out
                                        clear HA
                                        simp only [spec_CountByRecords.l3] at H
                                        by_cases c50 : x65_4 < (x5_2.length : Int)
                                        · rw [if_pos c50] at H
                                          have c50b0 : decide (x65_4 < (x5_2.length : Int)) = true := decide_eq_true c50
                                          (try (have c50b0h := c50b0; simp only [hl5_1] at c50b0h))
                                          (try (have c50b0h := c50b0; simp only [hl8_3] at c50b0h))
                                          (try (have c50b0h := c50b0; simp only [hl8_4] at c50b0h))
                                          clear c50
                                          by_cases c51 : 0 ≤ x65_4
                                          · rw [if_pos c51] at H
                                            have c51b0 : decide (0 ≤ x65_4) = true := decide_eq_true c51
                                            clear c51
                                            by_cases c52 : x65_4 < (x5_2.length : Int)
                                            · rw [if_pos c52] at H
                                              have c52b0 : decide (x65_4 < (x5_2.length : Int)) = true := decide_eq_true c52
                                              (try (have c52b0h := c52b0; simp only [hl5_1] at c52b0h))
                                              (try (have c52b0h := c52b0; simp only [hl8_3] at c52b0h))
                                              (try (have c52b0h := c52b0; simp only [hl8_4] at c52b0h))
                                              clear c52
                                              have H' := Aside0.mk H
                                              clear H
                                              have p128 : 0 ≤ (x65_4 : Int) := of_decide_eq_true (by first | (with_reducible assumption) | assumption)
                                              have q128 : x65_4 < (x5_2.length : Int) := of_decide_eq_true (by first | (with_reducible assumption) | assumption)
                                              obtain ⟨ad128, A128_0, c128_0, e128, hx128_0, hl128_0, hi128_0⟩ := at_L1 (Kd.S_reads' HO_63.out).2.2 x65_4 p128 q128
                                              cases e128
                                              obtain ⟨ce128, hce128, hMe128, hcc128⟩ := Kd.S_get HO_63.out [] x65_4 p128 (by first | exact q128 | exact of_decide_eq_true (by first | (with_reducible assumption) | assumption) | (have e_ := (Kd.S_reads' HO_63.out).1; omega))
                                              obtain ⟨ve128_0, rfl, ge128_0⟩ := hMe128
                                              have hv128_0 := hcc128 0 _ rfl
                                              rw [Nat.add_zero, show ((Kd.slice 3 (Kd.int .i64))).sz = 1 from rfl, Nat.mul_one] at hv128_0
                                              replace hv128_0 := Option.some.inj (hv128_0.symm.trans hx128_0)
                                              rw [hv128_0] at ge128_0
                                              have HL128_0 := Aside0.mk (show Kd.R (Kd.int .i64) 3 _ _ _ _ (rd_L1 x5_2 x65_4) from ge128_0)
                                              clear hv128_0 ge128_0
                                              have HX128_0 := Aside0.mk hx128_0
                                              clear hcc128 hce128
                                              have HR128_0 := Aside0.mk hi128_0
                                              have HC128_0 := Aside0.mk hl128_0
                                              clear hi128_0 hl128_0
                                              replace p128 := eq_true p128
                                              replace q128 := eq_true q128
                                              go_wp2
                                              go_loopg [72] k4 (fun kq v72 w' => ∃ (x4_5 : List Int) (x8_5 : List (List Int)) (x72_5 : Int), v72 = .int .i64 x72_5 ∧ Aside0 (spec_CountByRecords.l4 kq a0 x4_5 x7_2 x8_5 x65_4 x5_2 (x5_2.length : Int) x65_4 (rd_L1 x5_2 x65_4) ((rd_L1 x5_2 x65_4).length : Int) x72_5 = some (r1, r2)) ∧ Aside0 (kq ≤ k4) ∧ Aside0 (Kd.R (Kd.int .i64) 3 w' w.heap.size (fun _ => True) v108 x4_5) ∧ Aside0 (Kd.S (Kd.slice 3 (Kd.int .i64)) 30 w' w.heap.size (fun k_ => some k_ ≠ (v108 : Value).ownBlock ∧ NN ≤ k_) (.slice Ao36 x8_4.length co36) x8_5) ∧ Aside0 (Kd.S (Kd.slice 3 (Kd.int .i64)) 30 w' w.heap.size (fun k_ => some k_ ≠ (v108 : Value).ownBlock ∧ k_ < NN) (.slice (some ad128) x5_2.length co49) x5_2) ∧ Aside0 (Kd.R (Kd.int .i64) 3 w' w.heap.size (fun k_ => k_ < NN) (.slice A128_0 (rd_L1 x5_2 x65_4).length c128_0) (rd_L1 x5_2 x65_4)) ∧ Aside0 (Below w.heap.size w w'))
                                              case atStart => exact ⟨(x4_4), (x8_4), (0), (by first | rfl | (simp; done) | (simp [*]; done)), H', ⟨Nat.le_refl _⟩, ⟨by (try simp only [hl5_1]); (try simp only [hl8_3]); (try simp only [hl8_4]); (with_reducible repeat (first | apply Kd.R_alloc | apply Kd.R_drewN | apply Kd.R_drew)); exact HO_4.out⟩, ⟨by (try simp only [hl5_1]); (try simp only [hl8_3]); (try simp only [hl8_4]); (with_reducible repeat (first | apply Kd.S_alloc | apply Kd.S_drewN | apply Kd.S_drew)); exact HO_8.out⟩, ⟨by (try simp only [hl5_1]); (try simp only [hl8_3]); (try simp only [hl8_4]); (with_reducible repeat (first | apply Kd.S_alloc | apply Kd.S_drewN | apply Kd.S_drew)); exact HO_63.out⟩, ⟨by (with_reducible repeat (first | apply Kd.R_alloc | apply Kd.R_drewN | apply Kd.R_drew)); exact Kd.R_mono HL128_0.out (fun _ hk => hk.1.2)⟩, ⟨by repeat (first | (with_reducible first | exact HB.out | apply below_alloc | apply pw_below_drewN | apply below_drew1) | exact HB.out)⟩⟩
                                              case round =>
                                                clear H'
                                                try clear c1
                                                try clear p1
                                                try clear q1
                                                try clear hx1
                                                try clear qi1
                                                try clear hf1
                                                try clear c2
                                                try clear p2
                                                try clear q2
                                                try clear hx2
                                                try clear qi2
                                                try clear hf2
                                                try clear c3
                                                try clear c4
                                                try clear p4
                                                try clear q4
                                                try clear hx4
                                                try clear hf4
                                                try clear c5
                                                try clear c5b0
                                                try clear c5b1
                                                try clear c6
                                                try clear c6b0
                                                try clear c6b1
                                                try clear p6
                                                try clear c7
                                                try clear c7b0
                                                try clear c7b1
                                                try clear c11
                                                try clear p11
                                                try clear q11
                                                try clear hx11
                                                try clear qi11
                                                try clear c12
                                                try clear p12
                                                try clear q12
                                                try clear hx12
                                                try clear c13
                                                try clear c13b0
                                                try clear c15
                                                try clear c15b0
                                                try clear c15b1
                                                try clear c16
                                                try clear c16b0
                                                try clear c16b1
                                                try clear c17
                                                try clear c17b0
                                                try clear c18
                                                try clear c18b0
                                                try clear c19
                                                try clear p19
                                                try clear q19
                                                try clear hx19
                                                try clear hf19
                                                try clear c23
                                                try clear hx23
                                                try clear hf23
                                                try clear c25
                                                try clear c25b0
                                                try clear c25b1
                                                try clear c26
                                                try clear c26b0
                                                try clear c26b1
                                                try clear p27
                                                try clear q27
                                                try clear hx27
                                                try clear qi27
                                                try clear hf27
                                                try clear c28
                                                try clear q28
                                                try clear c30
                                                try clear c30b0
                                                try clear c32
                                                try clear c32b0
                                                try clear c32b1
                                                try clear c33
                                                try clear c33b0
                                                try clear c33b1
                                                try clear c37
                                                try clear c37b0
                                                try clear c39
                                                try clear c39b0
                                                try clear c39b1
                                                try clear c40
                                                try clear c40b0
                                                try clear c40b1
                                                try clear c41
                                                try clear c41b0
                                                try clear c42
                                                try clear c42b0
                                                try clear c43
                                                try clear p43
                                                try clear q43
                                                try clear hx43
                                                try clear hf43
                                                try clear c44
                                                try clear c46
                                                try clear c47
                                                try clear hx47
                                                try clear hf47
                                                try clear c50
                                                try clear c50b0
                                                try clear c51
                                                try clear c51b0
                                                try clear c52
                                                try clear c52b0
                                                try clear hx117_0
                                                try clear hx128_0
                                                try clear hx19_0
                                                try clear hx23_0
                                                try clear hx27_0
                                                try clear hx43_0
                                                try clear hx47_0
                                                try clear p1
                                                try clear p11
                                                try clear p117
                                                try clear p128
                                                try clear p19
                                                try clear p2
                                                try clear p27
                                                try clear p4
                                                try clear p43
                                                try clear p6
                                                try clear q1
                                                try clear q11
                                                try clear q117
                                                try clear q128
                                                try clear q19
                                                try clear q2
                                                try clear q27
                                                try clear q28
                                                try clear q4
                                                try clear q43
                                                obtain ⟨x4_5, x8_5, x72_5, rfl, HA, HK5, HO_4, HO_8, HO_63, HV128, HB⟩ := hrel
                                                have hl8_5 := (Kd.S_reads' HO_8.out).1
                                                rw [hl8_5] at HO_8
                                                (try simp only [hl8_5])
                                                (try simp only [hl8_5] at HO_4)
                                                (try simp only [hl8_5] at HO_63)
                                                cases gk with
                                                | zero => exact absurd HA.out (by simp [spec_CountByRecords.l4])
                                                | succ k5 =>
                                                  have H := HA.out
                                                  clear HA
                                                  simp only [spec_CountByRecords.l4] at H
                                                  by_cases c53 : x72_5 < ((rd_L1 x5_2 x65_4).length : Int)
                                                  · rw [if_pos c53] at H
                                                    have c53b0 : decide (x72_5 < ((rd_L1 x5_2 x65_4).length : Int)) = true := decide_eq_true c53
                                                    (try (have c53b0h := c53b0; simp only [hl5_1] at c53b0h))
                                                    (try (have c53b0h := c53b0; simp only [hl8_3] at c53b0h))
                                                    (try (have c53b0h := c53b0; simp only [hl8_4] at c53b0h))
                                                    (try (have c53b0h := c53b0; simp only [hl8_5] at c53b0h))
                                                    clear c53
                                                    by_cases c54 : 0 ≤ x72_5
                                                    · rw [if_pos c54] at H
                                                      have c54b0 : decide (0 ≤ x72_5) = true := decide_eq_true c54
                                                      clear c54
                                                      by_cases c55 : x72_5 < ((rd_L1 x5_2 x65_4).length : Int)
                                                      · rw [if_pos c55] at H
                                                        have c55b0 : decide (x72_5 < ((rd_L1 x5_2 x65_4).length : Int)) = true := decide_eq_true c55
                                                        (try (have c55b0h := c55b0; simp only [hl5_1] at c55b0h))
                                                        (try (have c55b0h := c55b0; simp only [hl8_3] at c55b0h))
                                                        (try (have c55b0h := c55b0; simp only [hl8_4] at c55b0h))
                                                        (try (have c55b0h := c55b0; simp only [hl8_5] at c55b0h))
                                                        clear c55
                                                        by_cases c56 : (rd (rd_L1 x5_2 x65_4) x72_5) = 0
                                                        · rw [if_pos c56] at H
                                                          have c56b0 : ((rd (rd_L1 x5_2 x65_4) x72_5) == 0) = true := beq_iff_eq.mpr c56
                                                          have c56b1 : ((rd (rd_L1 x5_2 x65_4) x72_5) != 0) = false := bne_eq_false_iff_eq.mpr c56
                                                          clear c56
                                                          have H' := Aside0.mk H
                                                          clear H
                                                          have p129 : 0 ≤ (x72_5 : Int) := of_decide_eq_true (by first | (with_reducible assumption) | assumption)
                                                          have q129 : x72_5 < ((rd_L1 x5_2 x65_4).length : Int) := of_decide_eq_true (by first | (with_reducible assumption) | assumption)
                                                          obtain ⟨ad129, e129, hx129_0⟩ := Kd.at_int (Kd.R_reads' HV128.out).2.2 x72_5 p129 q129
                                                          cases e129
                                                          (try replace hx129_0 := (HB.out.cell (World.block_lt_of_cell? w _ hx129_0)).trans hx129_0)
                                                          replace p129 := eq_true p129
                                                          replace q129 := eq_true q129
                                                          go_wp2
                                                          (try simp only [← hl8_5])
                                                          go_roundg k5
                                                          case measure => have := HK1.out; have := HK2.out; have := HK3.out; have := HK4.out; have := HK5.out; omega
                                                          case rel => exact ⟨(x4_5), (x8_5), (wrap64 (x72_5 + 1)), (by first | rfl | (simp; done) | (simp [*]; done)), H', ⟨by have := HK1.out; have := HK2.out; have := HK3.out; have := HK4.out; have := HK5.out; omega⟩, ⟨by (try simp only [hl5_1]); (try simp only [hl8_3]); (try simp only [hl8_4]); (try simp only [hl8_5]); (with_reducible repeat (first | apply Kd.R_alloc | apply Kd.R_drewN | apply Kd.R_drew)); exact HO_4.out⟩, ⟨by (try simp only [hl5_1]); (try simp only [hl8_3]); (try simp only [hl8_4]); (try simp only [hl8_5]); (with_reducible repeat (first | apply Kd.S_alloc | apply Kd.S_drewN | apply Kd.S_drew)); exact HO_8.out⟩, ⟨by (try simp only [hl5_1]); (try simp only [hl8_3]); (try simp only [hl8_4]); (try simp only [hl8_5]); (with_reducible repeat (first | apply Kd.S_alloc | apply Kd.S_drewN | apply Kd.S_drew)); exact HO_63.out⟩, ⟨by (with_reducible repeat (first | apply Kd.R_alloc | apply Kd.R_drewN | apply Kd.R_drew)); exact HV128.out⟩, ⟨by repeat (first | (with_reducible first | exact HB.out | apply below_alloc | apply pw_below_drewN | apply below_drew1) | exact HB.out)⟩⟩
                                                        · rw [if_neg c56] at H
                                                          have c56b0 : ((rd (rd_L1 x5_2 x65_4) x72_5) == 0) = false := beq_eq_false_iff_ne.mpr c56
                                                          have c56b1 : ((rd (rd_L1 x5_2 x65_4) x72_5) != 0) = true := bne_iff_ne.mpr c56
                                                          by_cases c57 : x65_4 = 0
                                                          · rw [if_pos c57] at H
                                                            have c57b0 : (x65_4 == 0) = true := beq_iff_eq.mpr c57
                                                            have c57b1 : (x65_4 != 0) = false := bne_eq_false_iff_eq.mpr c57
                                                            clear c57
                                                            by_cases c58 : 0 < (x8_5.length : Int)
                                                            · rw [if_pos c58] at H
                                                              have c58b0 : decide (0 < (x8_5.length : Int)) = true := decide_eq_true c58
                                                              (try (have c58b0h := c58b0; simp only [hl5_1] at c58b0h))
                                                              (try (have c58b0h := c58b0; simp only [hl8_3] at c58b0h))
                                                              (try (have c58b0h := c58b0; simp only [hl8_4] at c58b0h))
                                                              (try (have c58b0h := c58b0; simp only [hl8_5] at c58b0h))
                                                              have c58b1 : decide (0 < x8_5.length) = true := decide_eq_true (by omega)
                                                              (try (have c58b1h := c58b1; simp only [hl5_1] at c58b1h))
                                                              (try (have c58b1h := c58b1; simp only [hl8_3] at c58b1h))
                                                              (try (have c58b1h := c58b1; simp only [hl8_4] at c58b1h))
                                                              (try (have c58b1h := c58b1; simp only [hl8_5] at c58b1h))
                                                              clear c58
                                                              obtain ⟨ji59, hji59⟩ : ∃ j_ : Int, (wrap64 (x72_5 + 1)) = j_ := ⟨_, rfl⟩
                                                              replace H : (if 0 ≤ (ji59) then (if (ji59) < ((rd_L1 x8_5 0).length : Int) then ((some (x8_5.set (0 : Int).toNat ((rd_L1 x8_5 0).set ((ji59) : Int).toNat (wrap64 ((rd (rd_L1 x8_5 0) (ji59)) + (rd (rd_L1 x5_2 x65_4) x72_5)))) : List (List Int))).bind fun y134 => (if 0 ≤ (wrap64 (x65_4 + 1)) then (if (wrap64 (x65_4 + 1)) < (x8_5.length : Int) then (if x72_5 < ((rd_L1 y134 (wrap64 (x65_4 + 1))).length : Int) then (spec_CountByRecords.l4 k5 a0 x4_5 x7_2 (y134.set ((wrap64 (x65_4 + 1)) : Int).toNat ((rd_L1 y134 (wrap64 (x65_4 + 1))).set (x72_5 : Int).toNat (wrap64 ((rd (rd_L1 y134 (wrap64 (x65_4 + 1))) x72_5) + (rd (rd_L1 x5_2 x65_4) x72_5))))) x65_4 x5_2 (x5_2.length : Int) x65_4 (rd_L1 x5_2 x65_4) ((rd_L1 x5_2 x65_4).length : Int) ji59) else (none)) else (none)) else (none))) else (none)) else (none)) = some (r1, r2) := by first | (rw [hji59] at H; exact H) | (simp only [hji59] at H ⊢; exact H)
                                                              have hji59w : (IntKind.i64.wrap (x72_5 + 1)) = ji59 := (i64_w _).trans hji59
                                                              by_cases c60 : 0 ≤ (ji59)
                                                              · rw [if_pos c60] at H
                                                                have c60b0 : decide (0 ≤ (ji59)) = true := decide_eq_true c60
                                                                clear c60
                                                                by_cases c61 : (ji59) < ((rd_L1 x8_5 0).length : Int)
                                                                · rw [if_pos c61] at H
                                                                  have c61b0 : decide ((ji59) < ((rd_L1 x8_5 0).length : Int)) = true := decide_eq_true c61
                                                                  (try (have c61b0h := c61b0; simp only [hl5_1] at c61b0h))
                                                                  (try (have c61b0h := c61b0; simp only [hl8_3] at c61b0h))
                                                                  (try (have c61b0h := c61b0; simp only [hl8_4] at c61b0h))
                                                                  (try (have c61b0h := c61b0; simp only [hl8_5] at c61b0h))
                                                                  clear c61
                                                                  obtain ⟨y132, hy132⟩ : ∃ y_ : List Int, y_ = ((rd_L1 x8_5 0).set ((ji59) : Int).toNat (wrap64 ((rd (rd_L1 x8_5 0) (ji59)) + (rd (rd_L1 x5_2 x65_4) x72_5)))) := ⟨_, rfl⟩
                                                                  replace H : ((some (x8_5.set (0 : Int).toNat y132 : List (List Int))).bind fun y134 => (if 0 ≤ (wrap64 (x65_4 + 1)) then (if (wrap64 (x65_4 + 1)) < (x8_5.length : Int) then (if x72_5 < ((rd_L1 y134 (wrap64 (x65_4 + 1))).length : Int) then (spec_CountByRecords.l4 k5 a0 x4_5 x7_2 (y134.set ((wrap64 (x65_4 + 1)) : Int).toNat ((rd_L1 y134 (wrap64 (x65_4 + 1))).set (x72_5 : Int).toNat (wrap64 ((rd (rd_L1 y134 (wrap64 (x65_4 + 1))) x72_5) + (rd (rd_L1 x5_2 x65_4) x72_5))))) x65_4 x5_2 (x5_2.length : Int) x65_4 (rd_L1 x5_2 x65_4) ((rd_L1 x5_2 x65_4).length : Int) ji59) else (none)) else (none)) else (none))) = some (r1, r2) := by first | (rw [hy132]; with_reducible exact H) | (have H2_ := (Option.bind_some _ _).symm.trans H; rw [hy132]; with_reducible exact H2_) | (have H2_ := (Option.bind_some _ _).symm.trans H; with_reducible exact H2_) | with_reducible exact H | (rw [hy132]; exact H) | exact H
                                                                  have Ny132 := Aside0.mk hy132
                                                                  clear hy132
                                                                  obtain ⟨y134, hy134⟩ : ∃ y_ : List (List Int), y_ = (x8_5.set (0 : Int).toNat y132) := ⟨_, rfl⟩
                                                                  replace H : (if 0 ≤ (wrap64 (x65_4 + 1)) then (if (wrap64 (x65_4 + 1)) < (x8_5.length : Int) then (if x72_5 < ((rd_L1 y134 (wrap64 (x65_4 + 1))).length : Int) then (spec_CountByRecords.l4 k5 a0 x4_5 x7_2 (y134.set ((wrap64 (x65_4 + 1)) : Int).toNat ((rd_L1 y134 (wrap64 (x65_4 + 1))).set (x72_5 : Int).toNat (wrap64 ((rd (rd_L1 y134 (wrap64 (x65_4 + 1))) x72_5) + (rd (rd_L1 x5_2 x65_4) x72_5))))) x65_4 x5_2 (x5_2.length : Int) x65_4 (rd_L1 x5_2 x65_4) ((rd_L1 x5_2 x65_4).length : Int) ji59) else (none)) else (none)) else (none)) = some (r1, r2) := by first | (rw [hy134]; with_reducible exact H) | (have H2_ := (Option.bind_some _ _).symm.trans H; rw [hy134]; with_reducible exact H2_) | (have H2_ := (Option.bind_some _ _).symm.trans H; with_reducible exact H2_) | with_reducible exact H | (rw [hy134]; exact H) | exact H
                                                                  have Ny134 := Aside0.mk hy134
                                                                  clear hy134
                                                                  obtain ⟨ji63, hji63⟩ : ∃ j_ : Int, (wrap64 (x65_4 + 1)) = j_ := ⟨_, rfl⟩
                                                                  replace H : (if 0 ≤ (ji63) then (if (ji63) < (x8_5.length : Int) then (if x72_5 < ((rd_L1 y134 (ji63)).length : Int) then (spec_CountByRecords.l4 k5 a0 x4_5 x7_2 (y134.set ((ji63) : Int).toNat ((rd_L1 y134 (ji63)).set (x72_5 : Int).toNat (wrap64 ((rd (rd_L1 y134 (ji63)) x72_5) + (rd (rd_L1 x5_2 x65_4) x72_5))))) x65_4 x5_2 (x5_2.length : Int) x65_4 (rd_L1 x5_2 x65_4) ((rd_L1 x5_2 x65_4).length : Int) ji59) else (none)) else (none)) else (none)) = some (r1, r2) := by first | (rw [hji63] at H; exact H) | (simp only [hji63] at H ⊢; exact H)
                                                                  have hji63w : (IntKind.i64.wrap (x65_4 + 1)) = ji63 := (i64_w _).trans hji63
                                                                  by_cases c64 : 0 ≤ (ji63)
                                                                  · rw [if_pos c64] at H
                                                                    have c64b0 : decide (0 ≤ (ji63)) = true := decide_eq_true c64
                                                                    clear c64
                                                                    by_cases c65 : (ji63) < (x8_5.length : Int)
                                                                    · rw [if_pos c65] at H
                                                                      have c65b0 : decide ((ji63) < (x8_5.length : Int)) = true := decide_eq_true c65
                                                                      (try (have c65b0h := c65b0; simp only [hl5_1] at c65b0h))
                                                                      (try (have c65b0h := c65b0; simp only [hl8_3] at c65b0h))
                                                                      (try (have c65b0h := c65b0; simp only [hl8_4] at c65b0h))
                                                                      (try (have c65b0h := c65b0; simp only [hl8_5] at c65b0h))
                                                                      clear c65
                                                                      by_cases c66 : x72_5 < ((rd_L1 y134 (ji63)).length : Int)
                                                                      · rw [if_pos c66] at H
                                                                        have c66b0 : decide (x72_5 < ((rd_L1 y134 (ji63)).length : Int)) = true := decide_eq_true c66
                                                                        (try (have c66b0h := c66b0; simp only [hl5_1] at c66b0h))
                                                                        (try (have c66b0h := c66b0; simp only [hl8_3] at c66b0h))
                                                                        (try (have c66b0h := c66b0; simp only [hl8_4] at c66b0h))
                                                                        (try (have c66b0h := c66b0; simp only [hl8_5] at c66b0h))
                                                                        clear c66
                                                                        obtain ⟨y137, hy137⟩ : ∃ y_ : List Int, y_ = ((rd_L1 y134 (ji63)).set (x72_5 : Int).toNat (wrap64 ((rd (rd_L1 y134 (ji63)) x72_5) + (rd (rd_L1 x5_2 x65_4) x72_5)))) := ⟨_, rfl⟩
                                                                        replace H : (spec_CountByRecords.l4 k5 a0 x4_5 x7_2 (y134.set ((ji63) : Int).toNat y137) x65_4 x5_2 (x5_2.length : Int) x65_4 (rd_L1 x5_2 x65_4) ((rd_L1 x5_2 x65_4).length : Int) ji59) = some (r1, r2) := by first | (rw [hy137]; with_reducible exact H) | (have H2_ := (Option.bind_some _ _).symm.trans H; rw [hy137]; with_reducible exact H2_) | (have H2_ := (Option.bind_some _ _).symm.trans H; with_reducible exact H2_) | with_reducible exact H | (rw [hy137]; exact H) | exact H
                                                                        have Ny137 := Aside0.mk hy137
                                                                        clear hy137
                                                                        obtain ⟨y139, hy139⟩ : ∃ y_ : List (List Int), y_ = (y134.set ((ji63) : Int).toNat y137) := ⟨_, rfl⟩
                                                                        replace H : (spec_CountByRecords.l4 k5 a0 x4_5 x7_2 y139 x65_4 x5_2 (x5_2.length : Int) x65_4 (rd_L1 x5_2 x65_4) ((rd_L1 x5_2 x65_4).length : Int) ji59) = some (r1, r2) := by first | (rw [hy139]; with_reducible exact H) | (have H2_ := (Option.bind_some _ _).symm.trans H; rw [hy139]; with_reducible exact H2_) | (have H2_ := (Option.bind_some _ _).symm.trans H; with_reducible exact H2_) | with_reducible exact H | (rw [hy139]; exact H) | exact H
                                                                        have Ny139 := Aside0.mk hy139
                                                                        clear hy139
                                                                        have H' := Aside0.mk H
                                                                        clear H
                                                                        have p129 : 0 ≤ (x72_5 : Int) := of_decide_eq_true (by first | (with_reducible assumption) | assumption)
                                                                        have q129 : x72_5 < ((rd_L1 x5_2 x65_4).length : Int) := of_decide_eq_true (by first | (with_reducible assumption) | assumption)
                                                                        obtain ⟨ad129, e129, hx129_0⟩ := Kd.at_int (Kd.R_reads' HV128.out).2.2 x72_5 p129 q129
                                                                        cases e129
                                                                        (try replace hx129_0 := (HB.out.cell (World.block_lt_of_cell? w _ hx129_0)).trans hx129_0)
                                                                        replace p129 := eq_true p129
                                                                        replace q129 := eq_true q129
                                                                        have p130 : 0 ≤ (0 : Int) := (by omega)
                                                                        have q130 : 0 < (x8_5.length : Int) := of_decide_eq_true (by first | (with_reducible assumption) | assumption)
                                                                        obtain ⟨ad130, A130_0, c130_0, e130, hx130_0, hl130_0, hi130_0⟩ := at_L1 (Kd.S_reads' HO_8.out).2.2 0 p130 q130
                                                                        cases e130
                                                                        obtain ⟨ce130, hce130, hMe130, hcc130⟩ := Kd.S_get HO_8.out [] 0 p130 (by first | exact q130 | exact of_decide_eq_true (by first | (with_reducible assumption) | assumption) | (have e_ := (Kd.S_reads' HO_8.out).1; omega))
                                                                        obtain ⟨ve130_0, rfl, ge130_0⟩ := hMe130
                                                                        have hv130_0 := hcc130 0 _ rfl
                                                                        rw [Nat.add_zero, show ((Kd.slice 3 (Kd.int .i64))).sz = 1 from rfl, Nat.mul_one] at hv130_0
                                                                        replace hv130_0 := Option.some.inj (hv130_0.symm.trans hx130_0)
                                                                        rw [hv130_0] at ge130_0
                                                                        have HL130_0 := Aside0.mk (show Kd.R (Kd.int .i64) 3 _ _ _ _ (rd_L1 x8_5 0) from ge130_0)
                                                                        clear hv130_0 ge130_0
                                                                        have HX130_0 := Aside0.mk hx130_0
                                                                        clear hcc130 hce130
                                                                        have qi130 : (0 < x8_5.length) = True := eq_true (by omega)
                                                                        (try rw [show ((0 : Int)).toNat = 0 from rfl] at hx130_0)
                                                                        (try rw [Addr.add_zero'] at hx130_0)
                                                                        have HR130_0 := Aside0.mk hi130_0
                                                                        have HC130_0 := Aside0.mk hl130_0
                                                                        clear hi130_0 hl130_0
                                                                        replace p130 := eq_true p130
                                                                        replace q130 := eq_true q130
                                                                        have p131 : 0 ≤ ((ji59) : Int) := of_decide_eq_true (by first | (with_reducible assumption) | assumption)
                                                                        have q131 : (ji59) < ((rd_L1 x8_5 0).length : Int) := of_decide_eq_true (by first | (with_reducible assumption) | assumption)
                                                                        obtain ⟨ad131, e131, hx131_0⟩ := Kd.at_int (by repeat (first | (with_reducible exact HR130_0.out) | (with_reducible refine Kd.C_alloc ?_ _) | (with_reducible refine Kd.C_drewN ?_ _) | (with_reducible refine Kd.C_drew ?_) | exact HR130_0.out)) (ji59) p131 q131
                                                                        cases e131
                                                                        replace p131 := eq_true p131
                                                                        replace q131 := eq_true q131
                                                                        have p62 : 0 ≤ ((ji59) : Int) := of_decide_eq_true (by first | (with_reducible assumption) | assumption)
                                                                        have q62 : ((ji59) : Int) < (((rd_L1 x8_5 0).length : Int) : Int) := of_decide_eq_true (by first | (with_reducible assumption) | assumption)
                                                                        obtain ⟨go62, co62, eo62, gb62, gl62, cl62, HG62⟩ := Kd.R_form HL130_0.out (by omega)
                                                                        (first | cases eo62 | (injection eo62 with ea_ en_ ec_; (first | subst ea_ | (injection ea_ with ea_; subst ea_)); subst ec_; clear en_))
                                                                        have GB62 := Aside0.mk gb62
                                                                        have GG62 := Aside0.mk HG62
                                                                        clear gb62 gl62 HG62
                                                                        (first | simp only [add_plain] at hx131_0 | skip)
                                                                        obtain ⟨hx62_0, hf62_0⟩ := Kd.R_celln 0 HL130_0.out ((ji59) : Int) p62 q62
                                                                        replace p62 := eq_true p62
                                                                        replace q62 := eq_true q62
                                                                        have hq68 : (0 : Int) < (x8_5.length : Int) := (by have h_ : (0 : Int) < ((x8_5.length : Int) : Int) := of_decide_eq_true (by first | (with_reducible assumption) | assumption); first | exact h_ | (have e_ := (Kd.S_reads' HO_8.out).1; omega) | simpa only [List.length_set, List.length_set] using h_)
                                                                        obtain ⟨oki68, ce68, hcl68, hM68, hcc68, hok68, hbk68⟩ := Kd.S_borrow HO_8.out [] (0 : Int) (by omega) hq68
                                                                        obtain ⟨ve68_0, rfl, ge68_0⟩ := hM68
                                                                        have hv68 := hcc68 0 _ rfl
                                                                        rw [Nat.add_zero, show ((Kd.slice 3 (Kd.int .i64))).sz = 1 from rfl, Nat.mul_one] at hv68
                                                                        replace hv68 := Option.some.inj (hv68.symm.trans HX130_0.out)
                                                                        subst hv68
                                                                        clear hcc68 hcl68
                                                                        replace ge68_0 := (show Kd.R (Kd.int .i64) 3 _ _ _ _ (rd_L1 x8_5 0) from ge68_0)
                                                                        have HP68 := Kd.R_putg ge68_0 ((ji59) : Int) (wrap64 ((rd (rd_L1 x8_5 0) (ji59)) + (rd (rd_L1 x5_2 x65_4) x72_5)))
                                                                        go_wp2_with (first | ((with_reducible refine gate_store (t := 3) (p := 90) rfl ?_); refine store_event (t := 3) (p := 90) (v := ?vo_w69) (w1 := (wr.setCell ⟨go62, ((ji59) : Int).toNat, none⟩ (.int .i64 (wrap64 ((rd (rd_L1 x8_5 0) (ji59)) + (rd (rd_L1 x5_2 x65_4) x72_5)))))) ?hg ?ho ?hn ?hr ?_; (case ho => rfl); (case hg => rfl); (case hn => rfl); (case hr => first | (go_simp; done) | (go_simp; rfl)); intro w69 hw; have hg : wr.grownBy w69 (some go62) := (by rw [hw]; exact HP68.2); have hz_ : Kd.R (Kd.int .i64) 3 w69 w.heap.size oki68 (.slice (some ⟨go62, 0, none⟩) (rd_L1 x8_5 0).length c130_0) y132 := (by rw [hw, Ny132.out]; exact HP68.1); have hp_ : Kd.S (Kd.slice 3 (Kd.int .i64)) 30 w69 w.heap.size (fun k_ => some k_ ≠ (v108 : Value).ownBlock ∧ NN ≤ k_) (.slice (some ad130) x8_5.length co36) y134 := (by rw [Ny134.out]; exact hbk68 hg (fun k_ e_ => by injection e_ with e_; subst e_; exact ge68_0.1 _ rfl) (Kd.M_row hz_)); have hm_ := Kd.R_mono hz_ hok68; clear HP68 hbk68; have nv_ := Aside0.mk (Kd.R_grown HV128.out hg (by intro k_ hk e_; have e2_ := Option.some.inj e_; have h2_ : NN ≤ go62 := (HL130_0.out.1 _ rfl).1.2; have h3_ : k_ < NN := hk; omega)); clear HV128; have HV128 := nv_; clear nv_; have n0_ := Aside0.mk (Kd.R_grown1 (by (with_reducible repeat (first | apply Kd.R_alloc | apply Kd.R_drewN | apply Kd.R_drew)); exact HO_4.out) rfl hg ((HL130_0.out.1 _ rfl).1.1)); have n1_ := Aside0.mk (hp_); have n2_ := Aside0.mk (Kd.S_grown (by (with_reducible repeat (first | apply Kd.S_alloc | apply Kd.S_drewN | apply Kd.S_drew)); exact HO_63.out) hg (by intro k_ hk e_; have e2_ := Option.some.inj e_; have h2_ : NN ≤ go62 := (HL130_0.out.1 _ rfl).1.2; have h3_ : k_ < NN := hk.2; omega)); have n3_ := Aside0.mk ((by rw [hw]; exact below_set (HB.out) GB62.out : Below w.heap.size w w69)); have n4_ := Aside0.mk (hm_); have n5_ := Aside0.mk ((Kd.R_reads' hm_).2.1); clear HO_4; clear HO_8; clear HO_63; clear HB; clear HL130_0; have HO_4 := n0_; have HO_8 := n1_; have HO_63 := n2_; have HB := n3_; have HL155 := n4_; have HC133 := n5_; clear n0_ n1_ n2_ n3_ n4_ n5_; clear hg hw hp_ hz_ hm_ hok68; have p135 : 0 ≤ ((ji63) : Int) := of_decide_eq_true (by first | (with_reducible assumption) | assumption); have q135 : (ji63) < (y134.length : Int) := (by have h_ : ((ji63) : Int) < ((x8_5.length : Int) : Int) := of_decide_eq_true (by first | (with_reducible assumption) | assumption); first | (have e_ := (Kd.S_reads' HO_8.out).1; omega) | simpa only [Ny134.out, List.length_set] using h_); have ql135 : (((ji63) : Int) < ((x8_5.length : Int) : Int)) = True := eq_true (of_decide_eq_true (by first | (with_reducible assumption) | assumption)); obtain ⟨ad135, A135_0, c135_0, e135, hx135_0, hl135_0, hi135_0⟩ := at_L1 (Kd.S_reads' HO_8.out).2.2 (ji63) p135 q135; obtain rfl : ad130 = ad135 := (by injection e135); obtain ⟨ce135, hce135, hMe135, hcc135⟩ := Kd.S_get HO_8.out [] (ji63) p135 (by first | exact q135 | exact of_decide_eq_true (by first | (with_reducible assumption) | assumption) | (have e_ := (Kd.S_reads' HO_8.out).1; omega)); obtain ⟨ve135_0, rfl, ge135_0⟩ := hMe135; have hv135_0 := hcc135 0 _ rfl; rw [Nat.add_zero, show ((Kd.slice 3 (Kd.int .i64))).sz = 1 from rfl, Nat.mul_one] at hv135_0; replace hv135_0 := Option.some.inj (hv135_0.symm.trans hx135_0); rw [hv135_0] at ge135_0; have HL135_0 := Aside0.mk (show Kd.R (Kd.int .i64) 3 _ _ _ _ (rd_L1 y134 (ji63)) from ge135_0); clear hv135_0 ge135_0; have HX135_0 := Aside0.mk hx135_0; clear hcc135 hce135; have HR135_0 := Aside0.mk hi135_0; have HC135_0 := Aside0.mk hl135_0; clear hi135_0 hl135_0; replace p135 := eq_true p135; replace q135 := eq_true q135; have p136 : 0 ≤ (x72_5 : Int) := of_decide_eq_true (by first | (with_reducible assumption) | assumption); have q136 : x72_5 < ((rd_L1 y134 (ji63)).length : Int) := of_decide_eq_true (by first | (with_reducible assumption) | assumption); obtain ⟨ad136, e136, hx136_0⟩ := Kd.at_int (by repeat (first | (with_reducible exact HR135_0.out) | (with_reducible refine Kd.C_alloc ?_ _) | (with_reducible refine Kd.C_drewN ?_ _) | (with_reducible refine Kd.C_drew ?_) | exact HR135_0.out)) x72_5 p136 q136; cases e136; replace p136 := eq_true p136; replace q136 := eq_true q136; have p67 : 0 ≤ (x72_5 : Int) := of_decide_eq_true (by first | (with_reducible assumption) | assumption); have q67 : (x72_5 : Int) < (((rd_L1 y134 (ji63)).length : Int) : Int) := of_decide_eq_true (by first | (with_reducible assumption) | assumption); obtain ⟨go67, co67, eo67, gb67, gl67, cl67, HG67⟩ := Kd.R_form HL135_0.out (by omega); (first | cases eo67 | (injection eo67 with ea_ en_ ec_; (first | subst ea_ | (injection ea_ with ea_; subst ea_)); subst ec_; clear en_)); have GB67 := Aside0.mk gb67; have GG67 := Aside0.mk HG67; clear gb67 gl67 HG67; (first | simp only [add_plain] at hx136_0 | skip); obtain ⟨hx67_0, hf67_0⟩ := Kd.R_celln 0 HL135_0.out (x72_5 : Int) p67 q67; replace p67 := eq_true p67; replace q67 := eq_true q67; have hq70 : ((ji63) : Int) < (x8_5.length : Int) := (by have h_ : ((ji63) : Int) < ((x8_5.length : Int) : Int) := of_decide_eq_true (by first | (with_reducible assumption) | assumption); first | exact h_ | (have e_ := (Kd.S_reads' HO_8.out).1; omega) | simpa only [Ny134.out, List.length_set] using h_); obtain ⟨oki70, ce70, hcl70, hM70, hcc70, hok70, hbk70⟩ := Kd.S_borrow HO_8.out [] ((ji63) : Int) (of_decide_eq_true (by first | (with_reducible assumption) | assumption)) hq70; obtain ⟨ve70_0, rfl, ge70_0⟩ := hM70; have hv70 := hcc70 0 _ rfl; rw [Nat.add_zero, show ((Kd.slice 3 (Kd.int .i64))).sz = 1 from rfl, Nat.mul_one] at hv70; replace hv70 := Option.some.inj (hv70.symm.trans HX135_0.out); subst hv70; clear hcc70 hcl70; replace ge70_0 := (show Kd.R (Kd.int .i64) 3 _ _ _ _ (rd_L1 y134 (ji63)) from ge70_0); have HP70 := Kd.R_putg ge70_0 (x72_5 : Int) (wrap64 ((rd (rd_L1 y134 (ji63)) x72_5) + (rd (rd_L1 x5_2 x65_4) x72_5)))) | ((with_reducible refine gate_store (t := 3) (p := 112) rfl ?_); refine store_event (t := 3) (p := 112) (v := ?vo_w71) (w1 := (w69.setCell ⟨go67, (x72_5 : Int).toNat, none⟩ (.int .i64 (wrap64 ((rd (rd_L1 y134 (ji63)) x72_5) + (rd (rd_L1 x5_2 x65_4) x72_5)))))) ?hg ?ho ?hn ?hr ?_; (case ho => rfl); (case hg => rfl); (case hn => rfl); (case hr => first | (go_simp; done) | (go_simp; rfl)); intro w71 hw; have hg : w69.grownBy w71 (some go67) := (by rw [hw]; exact HP70.2); have hz_ : Kd.R (Kd.int .i64) 3 w71 w.heap.size oki70 (.slice (some ⟨go67, 0, none⟩) (rd_L1 y134 (ji63)).length c135_0) y137 := (by rw [hw, Ny137.out]; exact HP70.1); have hp_ : Kd.S (Kd.slice 3 (Kd.int .i64)) 30 w71 w.heap.size (fun k_ => some k_ ≠ (v108 : Value).ownBlock ∧ NN ≤ k_) (.slice (some ad130) x8_5.length co36) y139 := (by rw [Ny139.out]; exact hbk70 hg (fun k_ e_ => by injection e_ with e_; subst e_; exact ge70_0.1 _ rfl) (Kd.M_row hz_)); have hm_ := Kd.R_mono hz_ hok70; clear HP70 hbk70; have nv_ := Aside0.mk (Kd.R_grown HV128.out hg (by intro k_ hk e_; have e2_ := Option.some.inj e_; have h2_ : NN ≤ go67 := (HL135_0.out.1 _ rfl).1.2; have h3_ : k_ < NN := hk; omega)); clear HV128; have HV128 := nv_; clear nv_; have n0_ := Aside0.mk (Kd.R_grown1 (by (with_reducible repeat (first | apply Kd.R_alloc | apply Kd.R_drewN | apply Kd.R_drew)); exact HO_4.out) rfl hg ((HL135_0.out.1 _ rfl).1.1)); have n1_ := Aside0.mk (hp_); have n2_ := Aside0.mk (Kd.S_grown (by (with_reducible repeat (first | apply Kd.S_alloc | apply Kd.S_drewN | apply Kd.S_drew)); exact HO_63.out) hg (by intro k_ hk e_; have e2_ := Option.some.inj e_; have h2_ : NN ≤ go67 := (HL135_0.out.1 _ rfl).1.2; have h3_ : k_ < NN := hk.2; omega)); have n3_ := Aside0.mk ((by rw [hw]; exact below_set (HB.out) GB67.out : Below w.heap.size w w71)); have n4_ := Aside0.mk (hm_); have n5_ := Aside0.mk ((Kd.R_reads' hm_).2.1); clear HO_4; clear HO_8; clear HO_63; clear HB; clear HL155; clear HL135_0; have HO_4 := n0_; have HO_8 := n1_; have HO_63 := n2_; have HB := n3_; have HL156 := n4_; have HC138 := n5_; clear n0_ n1_ n2_ n3_ n4_ n5_; clear hg hw hp_ hz_ hm_ hok70))
                                                                        (try simp only [← hl8_5])
                                                                        go_roundg k5
                                                                        case measure => have := HK1.out; have := HK2.out; have := HK3.out; have := HK4.out; have := HK5.out; omega
                                                                        case rel => exact ⟨(x4_5), (y139), (ji59), (by first | rfl | (simp; done) | (simp only [← hji59] <;> (first | rfl | simp)) | (simp [*]; done)), H', ⟨by have := HK1.out; have := HK2.out; have := HK3.out; have := HK4.out; have := HK5.out; omega⟩, ⟨by (try simp only [hl5_1]); (try simp only [hl8_3]); (try simp only [hl8_4]); (try simp only [hl8_5]); (with_reducible repeat (first | apply Kd.R_alloc | apply Kd.R_drewN | apply Kd.R_drew)); exact HO_4.out⟩, ⟨by (try simp only [hl5_1]); (try simp only [hl8_3]); (try simp only [hl8_4]); (try simp only [hl8_5]); (with_reducible repeat (first | apply Kd.S_alloc | apply Kd.S_drewN | apply Kd.S_drew)); exact HO_8.out⟩, ⟨by (try simp only [hl5_1]); (try simp only [hl8_3]); (try simp only [hl8_4]); (try simp only [hl8_5]); (with_reducible repeat (first | apply Kd.S_alloc | apply Kd.S_drewN | apply Kd.S_drew)); exact HO_63.out⟩, ⟨by (with_reducible repeat (first | apply Kd.R_alloc | apply Kd.R_drewN | apply Kd.R_drew)); exact HV128.out⟩, ⟨by repeat (first | (with_reducible first | exact HB.out | apply below_alloc | apply pw_below_drewN | apply below_drew1) | exact HB.out)⟩⟩
                                                                      · rw [if_neg c66] at H
                                                                        exact absurd H (by simp)
                                                                    · rw [if_neg c65] at H
                                                                      exact absurd H (by simp)
                                                                  · rw [if_neg c64] at H
                                                                    exact absurd H (by simp)
                                                                · rw [if_neg c61] at H
                                                                  exact absurd H (by simp)
                                                              · rw [if_neg c60] at H
                                                                exact absurd H (by simp)
                                                            · rw [if_neg c58] at H
                                                              exact absurd H (by simp)
                                                          · rw [if_neg c57] at H
                                                            have c57b0 : (x65_4 == 0) = false := beq_eq_false_iff_ne.mpr c57
                                                            have c57b1 : (x65_4 != 0) = true := bne_iff_ne.mpr c57
                                                            obtain ⟨ji72, hji72⟩ : ∃ j_ : Int, (wrap64 (x65_4 - 1)) = j_ := ⟨_, rfl⟩
                                                            replace H : (if 0 ≤ (ji72) then (if (ji72) < (x8_5.length : Int) then (if x72_5 < ((rd_L1 x8_5 (ji72)).length : Int) then ((some (x8_5.set ((ji72) : Int).toNat ((rd_L1 x8_5 (ji72)).set (x72_5 : Int).toNat (wrap64 ((rd (rd_L1 x8_5 (ji72)) x72_5) + (rd (rd_L1 x5_2 x65_4) x72_5)))) : List (List Int))).bind fun y144 => (if 0 ≤ (wrap64 (x65_4 + 1)) then (if (wrap64 (x65_4 + 1)) < (x8_5.length : Int) then (if x72_5 < ((rd_L1 y144 (wrap64 (x65_4 + 1))).length : Int) then (spec_CountByRecords.l4 k5 a0 x4_5 x7_2 (y144.set ((wrap64 (x65_4 + 1)) : Int).toNat ((rd_L1 y144 (wrap64 (x65_4 + 1))).set (x72_5 : Int).toNat (wrap64 ((rd (rd_L1 y144 (wrap64 (x65_4 + 1))) x72_5) + (rd (rd_L1 x5_2 x65_4) x72_5))))) x65_4 x5_2 (x5_2.length : Int) x65_4 (rd_L1 x5_2 x65_4) ((rd_L1 x5_2 x65_4).length : Int) (wrap64 (x72_5 + 1))) else (none)) else (none)) else (none))) else (none)) else (none)) else (none)) = some (r1, r2) := by first | (rw [hji72] at H; exact H) | (simp only [hji72] at H ⊢; exact H)
                                                            have hji72w : (IntKind.i64.wrap (x65_4 - 1)) = ji72 := (i64_w _).trans hji72
                                                            by_cases c73 : 0 ≤ (ji72)
                                                            · rw [if_pos c73] at H
                                                              have c73b0 : decide (0 ≤ (ji72)) = true := decide_eq_true c73
                                                              clear c73
                                                              by_cases c74 : (ji72) < (x8_5.length : Int)
                                                              · rw [if_pos c74] at H
                                                                have c74b0 : decide ((ji72) < (x8_5.length : Int)) = true := decide_eq_true c74
                                                                (try (have c74b0h := c74b0; simp only [hl5_1] at c74b0h))
                                                                (try (have c74b0h := c74b0; simp only [hl8_3] at c74b0h))
                                                                (try (have c74b0h := c74b0; simp only [hl8_4] at c74b0h))
                                                                (try (have c74b0h := c74b0; simp only [hl8_5] at c74b0h))
                                                                clear c74
                                                                by_cases c75 : x72_5 < ((rd_L1 x8_5 (ji72)).length : Int)
                                                                · rw [if_pos c75] at H
                                                                  have c75b0 : decide (x72_5 < ((rd_L1 x8_5 (ji72)).length : Int)) = true := decide_eq_true c75
                                                                  (try (have c75b0h := c75b0; simp only [hl5_1] at c75b0h))
                                                                  (try (have c75b0h := c75b0; simp only [hl8_3] at c75b0h))
                                                                  (try (have c75b0h := c75b0; simp only [hl8_4] at c75b0h))
                                                                  (try (have c75b0h := c75b0; simp only [hl8_5] at c75b0h))
                                                                  clear c75
                                                                  obtain ⟨y142, hy142⟩ : ∃ y_ : List Int, y_ = ((rd_L1 x8_5 (ji72)).set (x72_5 : Int).toNat (wrap64 ((rd (rd_L1 x8_5 (ji72)) x72_5) + (rd (rd_L1 x5_2 x65_4) x72_5)))) := ⟨_, rfl⟩
                                                                  replace H : ((some (x8_5.set ((ji72) : Int).toNat y142 : List (List Int))).bind fun y144 => (if 0 ≤ (wrap64 (x65_4 + 1)) then (if (wrap64 (x65_4 + 1)) < (x8_5.length : Int) then (if x72_5 < ((rd_L1 y144 (wrap64 (x65_4 + 1))).length : Int) then (spec_CountByRecords.l4 k5 a0 x4_5 x7_2 (y144.set ((wrap64 (x65_4 + 1)) : Int).toNat ((rd_L1 y144 (wrap64 (x65_4 + 1))).set (x72_5 : Int).toNat (wrap64 ((rd (rd_L1 y144 (wrap64 (x65_4 + 1))) x72_5) + (rd (rd_L1 x5_2 x65_4) x72_5))))) x65_4 x5_2 (x5_2.length : Int) x65_4 (rd_L1 x5_2 x65_4) ((rd_L1 x5_2 x65_4).length : Int) (wrap64 (x72_5 + 1))) else (none)) else (none)) else (none))) = some (r1, r2) := by first | (rw [hy142]; with_reducible exact H) | (have H2_ := (Option.bind_some _ _).symm.trans H; rw [hy142]; with_reducible exact H2_) | (have H2_ := (Option.bind_some _ _).symm.trans H; with_reducible exact H2_) | with_reducible exact H | (rw [hy142]; exact H) | exact H
                                                                  have Ny142 := Aside0.mk hy142
                                                                  clear hy142
                                                                  obtain ⟨y144, hy144⟩ : ∃ y_ : List (List Int), y_ = (x8_5.set ((ji72) : Int).toNat y142) := ⟨_, rfl⟩
                                                                  replace H : (if 0 ≤ (wrap64 (x65_4 + 1)) then (if (wrap64 (x65_4 + 1)) < (x8_5.length : Int) then (if x72_5 < ((rd_L1 y144 (wrap64 (x65_4 + 1))).length : Int) then (spec_CountByRecords.l4 k5 a0 x4_5 x7_2 (y144.set ((wrap64 (x65_4 + 1)) : Int).toNat ((rd_L1 y144 (wrap64 (x65_4 + 1))).set (x72_5 : Int).toNat (wrap64 ((rd (rd_L1 y144 (wrap64 (x65_4 + 1))) x72_5) + (rd (rd_L1 x5_2 x65_4) x72_5))))) x65_4 x5_2 (x5_2.length : Int) x65_4 (rd_L1 x5_2 x65_4) ((rd_L1 x5_2 x65_4).length : Int) (wrap64 (x72_5 + 1))) else (none)) else (none)) else (none)) = some (r1, r2) := by first | (rw [hy144]; with_reducible exact H) | (have H2_ := (Option.bind_some _ _).symm.trans H; rw [hy144]; with_reducible exact H2_) | (have H2_ := (Option.bind_some _ _).symm.trans H; with_reducible exact H2_) | with_reducible exact H | (rw [hy144]; exact H) | exact H
                                                                  have Ny144 := Aside0.mk hy144
                                                                  clear hy144
                                                                  obtain ⟨ji77, hji77⟩ : ∃ j_ : Int, (wrap64 (x65_4 + 1)) = j_ := ⟨_, rfl⟩
                                                                  replace H : (if 0 ≤ (ji77) then (if (ji77) < (x8_5.length : Int) then (if x72_5 < ((rd_L1 y144 (ji77)).length : Int) then (spec_CountByRecords.l4 k5 a0 x4_5 x7_2 (y144.set ((ji77) : Int).toNat ((rd_L1 y144 (ji77)).set (x72_5 : Int).toNat (wrap64 ((rd (rd_L1 y144 (ji77)) x72_5) + (rd (rd_L1 x5_2 x65_4) x72_5))))) x65_4 x5_2 (x5_2.length : Int) x65_4 (rd_L1 x5_2 x65_4) ((rd_L1 x5_2 x65_4).length : Int) (wrap64 (x72_5 + 1))) else (none)) else (none)) else (none)) = some (r1, r2) := by first | (rw [hji77] at H; exact H) | (simp only [hji77] at H ⊢; exact H)
                                                                  have hji77w : (IntKind.i64.wrap (x65_4 + 1)) = ji77 := (i64_w _).trans hji77
                                                                  by_cases c78 : 0 ≤ (ji77)
                                                                  · rw [if_pos c78] at H
                                                                    have c78b0 : decide (0 ≤ (ji77)) = true := decide_eq_true c78
                                                                    clear c78
                                                                    by_cases c79 : (ji77) < (x8_5.length : Int)
                                                                    · rw [if_pos c79] at H
                                                                      have c79b0 : decide ((ji77) < (x8_5.length : Int)) = true := decide_eq_true c79
                                                                      (try (have c79b0h := c79b0; simp only [hl5_1] at c79b0h))
                                                                      (try (have c79b0h := c79b0; simp only [hl8_3] at c79b0h))
                                                                      (try (have c79b0h := c79b0; simp only [hl8_4] at c79b0h))
                                                                      (try (have c79b0h := c79b0; simp only [hl8_5] at c79b0h))
                                                                      clear c79
                                                                      by_cases c80 : x72_5 < ((rd_L1 y144 (ji77)).length : Int)
                                                                      · rw [if_pos c80] at H
                                                                        have c80b0 : decide (x72_5 < ((rd_L1 y144 (ji77)).length : Int)) = true := decide_eq_true c80
                                                                        (try (have c80b0h := c80b0; simp only [hl5_1] at c80b0h))
                                                                        (try (have c80b0h := c80b0; simp only [hl8_3] at c80b0h))
                                                                        (try (have c80b0h := c80b0; simp only [hl8_4] at c80b0h))
                                                                        (try (have c80b0h := c80b0; simp only [hl8_5] at c80b0h))
                                                                        clear c80
                                                                        obtain ⟨y147, hy147⟩ : ∃ y_ : List Int, y_ = ((rd_L1 y144 (ji77)).set (x72_5 : Int).toNat (wrap64 ((rd (rd_L1 y144 (ji77)) x72_5) + (rd (rd_L1 x5_2 x65_4) x72_5)))) := ⟨_, rfl⟩
                                                                        replace H : (spec_CountByRecords.l4 k5 a0 x4_5 x7_2 (y144.set ((ji77) : Int).toNat y147) x65_4 x5_2 (x5_2.length : Int) x65_4 (rd_L1 x5_2 x65_4) ((rd_L1 x5_2 x65_4).length : Int) (wrap64 (x72_5 + 1))) = some (r1, r2) := by first | (rw [hy147]; with_reducible exact H) | (have H2_ := (Option.bind_some _ _).symm.trans H; rw [hy147]; with_reducible exact H2_) | (have H2_ := (Option.bind_some _ _).symm.trans H; with_reducible exact H2_) | with_reducible exact H | (rw [hy147]; exact H) | exact H
                                                                        have Ny147 := Aside0.mk hy147
                                                                        clear hy147
                                                                        obtain ⟨y149, hy149⟩ : ∃ y_ : List (List Int), y_ = (y144.set ((ji77) : Int).toNat y147) := ⟨_, rfl⟩
                                                                        replace H : (spec_CountByRecords.l4 k5 a0 x4_5 x7_2 y149 x65_4 x5_2 (x5_2.length : Int) x65_4 (rd_L1 x5_2 x65_4) ((rd_L1 x5_2 x65_4).length : Int) (wrap64 (x72_5 + 1))) = some (r1, r2) := by first | (rw [hy149]; with_reducible exact H) | (have H2_ := (Option.bind_some _ _).symm.trans H; rw [hy149]; with_reducible exact H2_) | (have H2_ := (Option.bind_some _ _).symm.trans H; with_reducible exact H2_) | with_reducible exact H | (rw [hy149]; exact H) | exact H
                                                                        have Ny149 := Aside0.mk hy149
                                                                        clear hy149
                                                                        have H' := Aside0.mk H
                                                                        clear H
                                                                        have p129 : 0 ≤ (x72_5 : Int) := of_decide_eq_true (by first | (with_reducible assumption) | assumption)
                                                                        have q129 : x72_5 < ((rd_L1 x5_2 x65_4).length : Int) := of_decide_eq_true (by first | (with_reducible assumption) | assumption)
                                                                        obtain ⟨ad129, e129, hx129_0⟩ := Kd.at_int (Kd.R_reads' HV128.out).2.2 x72_5 p129 q129
                                                                        cases e129
                                                                        (try replace hx129_0 := (HB.out.cell (World.block_lt_of_cell? w _ hx129_0)).trans hx129_0)
                                                                        replace p129 := eq_true p129
                                                                        replace q129 := eq_true q129
                                                                        have p140 : 0 ≤ ((ji72) : Int) := of_decide_eq_true (by first | (with_reducible assumption) | assumption)
                                                                        have q140 : (ji72) < (x8_5.length : Int) := of_decide_eq_true (by first | (with_reducible assumption) | assumption)
                                                                        obtain ⟨ad140, A140_0, c140_0, e140, hx140_0, hl140_0, hi140_0⟩ := at_L1 (Kd.S_reads' HO_8.out).2.2 (ji72) p140 q140
                                                                        cases e140
                                                                        obtain ⟨ce140, hce140, hMe140, hcc140⟩ := Kd.S_get HO_8.out [] (ji72) p140 (by first | exact q140 | exact of_decide_eq_true (by first | (with_reducible assumption) | assumption) | (have e_ := (Kd.S_reads' HO_8.out).1; omega))
                                                                        obtain ⟨ve140_0, rfl, ge140_0⟩ := hMe140
                                                                        have hv140_0 := hcc140 0 _ rfl
                                                                        rw [Nat.add_zero, show ((Kd.slice 3 (Kd.int .i64))).sz = 1 from rfl, Nat.mul_one] at hv140_0
                                                                        replace hv140_0 := Option.some.inj (hv140_0.symm.trans hx140_0)
                                                                        rw [hv140_0] at ge140_0
                                                                        have HL140_0 := Aside0.mk (show Kd.R (Kd.int .i64) 3 _ _ _ _ (rd_L1 x8_5 (ji72)) from ge140_0)
                                                                        clear hv140_0 ge140_0
                                                                        have HX140_0 := Aside0.mk hx140_0
                                                                        clear hcc140 hce140
                                                                        have HR140_0 := Aside0.mk hi140_0
                                                                        have HC140_0 := Aside0.mk hl140_0
                                                                        clear hi140_0 hl140_0
                                                                        replace p140 := eq_true p140
                                                                        replace q140 := eq_true q140
                                                                        have p141 : 0 ≤ (x72_5 : Int) := of_decide_eq_true (by first | (with_reducible assumption) | assumption)
                                                                        have q141 : x72_5 < ((rd_L1 x8_5 (ji72)).length : Int) := of_decide_eq_true (by first | (with_reducible assumption) | assumption)
                                                                        obtain ⟨ad141, e141, hx141_0⟩ := Kd.at_int (by repeat (first | (with_reducible exact HR140_0.out) | (with_reducible refine Kd.C_alloc ?_ _) | (with_reducible refine Kd.C_drewN ?_ _) | (with_reducible refine Kd.C_drew ?_) | exact HR140_0.out)) x72_5 p141 q141
                                                                        cases e141
                                                                        replace p141 := eq_true p141
                                                                        replace q141 := eq_true q141
                                                                        have p76 : 0 ≤ (x72_5 : Int) := of_decide_eq_true (by first | (with_reducible assumption) | assumption)
                                                                        have q76 : (x72_5 : Int) < (((rd_L1 x8_5 (ji72)).length : Int) : Int) := of_decide_eq_true (by first | (with_reducible assumption) | assumption)
                                                                        obtain ⟨go76, co76, eo76, gb76, gl76, cl76, HG76⟩ := Kd.R_form HL140_0.out (by omega)
                                                                        (first | cases eo76 | (injection eo76 with ea_ en_ ec_; (first | subst ea_ | (injection ea_ with ea_; subst ea_)); subst ec_; clear en_))
                                                                        have GB76 := Aside0.mk gb76
                                                                        have GG76 := Aside0.mk HG76
                                                                        clear gb76 gl76 HG76
                                                                        (first | simp only [add_plain] at hx141_0 | skip)
                                                                        obtain ⟨hx76_0, hf76_0⟩ := Kd.R_celln 0 HL140_0.out (x72_5 : Int) p76 q76
                                                                        replace p76 := eq_true p76
                                                                        replace q76 := eq_true q76
                                                                        have hq82 : ((ji72) : Int) < (x8_5.length : Int) := (by have h_ : ((ji72) : Int) < ((x8_5.length : Int) : Int) := of_decide_eq_true (by first | (with_reducible assumption) | assumption); first | exact h_ | (have e_ := (Kd.S_reads' HO_8.out).1; omega) | simpa only [List.length_set, List.length_set] using h_)
                                                                        obtain ⟨oki82, ce82, hcl82, hM82, hcc82, hok82, hbk82⟩ := Kd.S_borrow HO_8.out [] ((ji72) : Int) (of_decide_eq_true (by first | (with_reducible assumption) | assumption)) hq82
                                                                        obtain ⟨ve82_0, rfl, ge82_0⟩ := hM82
                                                                        have hv82 := hcc82 0 _ rfl
                                                                        rw [Nat.add_zero, show ((Kd.slice 3 (Kd.int .i64))).sz = 1 from rfl, Nat.mul_one] at hv82
                                                                        replace hv82 := Option.some.inj (hv82.symm.trans HX140_0.out)
                                                                        subst hv82
                                                                        clear hcc82 hcl82
                                                                        replace ge82_0 := (show Kd.R (Kd.int .i64) 3 _ _ _ _ (rd_L1 x8_5 (ji72)) from ge82_0)
                                                                        have HP82 := Kd.R_putg ge82_0 (x72_5 : Int) (wrap64 ((rd (rd_L1 x8_5 (ji72)) x72_5) + (rd (rd_L1 x5_2 x65_4) x72_5)))
                                                                        go_wp2_with (first | ((with_reducible refine gate_store (t := 3) (p := 101) rfl ?_); refine store_event (t := 3) (p := 101) (v := ?vo_w83) (w1 := (wr.setCell ⟨go76, (x72_5 : Int).toNat, none⟩ (.int .i64 (wrap64 ((rd (rd_L1 x8_5 (ji72)) x72_5) + (rd (rd_L1 x5_2 x65_4) x72_5)))))) ?hg ?ho ?hn ?hr ?_; (case ho => rfl); (case hg => rfl); (case hn => rfl); (case hr => first | (go_simp; done) | (go_simp; rfl)); intro w83 hw; have hg : wr.grownBy w83 (some go76) := (by rw [hw]; exact HP82.2); have hz_ : Kd.R (Kd.int .i64) 3 w83 w.heap.size oki82 (.slice (some ⟨go76, 0, none⟩) (rd_L1 x8_5 (ji72)).length c140_0) y142 := (by rw [hw, Ny142.out]; exact HP82.1); have hp_ : Kd.S (Kd.slice 3 (Kd.int .i64)) 30 w83 w.heap.size (fun k_ => some k_ ≠ (v108 : Value).ownBlock ∧ NN ≤ k_) (.slice (some ad140) x8_5.length co36) y144 := (by rw [Ny144.out]; exact hbk82 hg (fun k_ e_ => by injection e_ with e_; subst e_; exact ge82_0.1 _ rfl) (Kd.M_row hz_)); have hm_ := Kd.R_mono hz_ hok82; clear HP82 hbk82; have nv_ := Aside0.mk (Kd.R_grown HV128.out hg (by intro k_ hk e_; have e2_ := Option.some.inj e_; have h2_ : NN ≤ go76 := (HL140_0.out.1 _ rfl).1.2; have h3_ : k_ < NN := hk; omega)); clear HV128; have HV128 := nv_; clear nv_; have n0_ := Aside0.mk (Kd.R_grown1 (by (with_reducible repeat (first | apply Kd.R_alloc | apply Kd.R_drewN | apply Kd.R_drew)); exact HO_4.out) rfl hg ((HL140_0.out.1 _ rfl).1.1)); have n1_ := Aside0.mk (hp_); have n2_ := Aside0.mk (Kd.S_grown (by (with_reducible repeat (first | apply Kd.S_alloc | apply Kd.S_drewN | apply Kd.S_drew)); exact HO_63.out) hg (by intro k_ hk e_; have e2_ := Option.some.inj e_; have h2_ : NN ≤ go76 := (HL140_0.out.1 _ rfl).1.2; have h3_ : k_ < NN := hk.2; omega)); have n3_ := Aside0.mk ((by rw [hw]; exact below_set (HB.out) GB76.out : Below w.heap.size w w83)); have n4_ := Aside0.mk (hm_); have n5_ := Aside0.mk ((Kd.R_reads' hm_).2.1); clear HO_4; clear HO_8; clear HO_63; clear HB; clear HL140_0; have HO_4 := n0_; have HO_8 := n1_; have HO_63 := n2_; have HB := n3_; have HL157 := n4_; have HC143 := n5_; clear n0_ n1_ n2_ n3_ n4_ n5_; clear hg hw hp_ hz_ hm_ hok82; have p145 : 0 ≤ ((ji77) : Int) := of_decide_eq_true (by first | (with_reducible assumption) | assumption); have q145 : (ji77) < (y144.length : Int) := (by have h_ : ((ji77) : Int) < ((x8_5.length : Int) : Int) := of_decide_eq_true (by first | (with_reducible assumption) | assumption); first | (have e_ := (Kd.S_reads' HO_8.out).1; omega) | simpa only [Ny144.out, List.length_set] using h_); have ql145 : (((ji77) : Int) < ((x8_5.length : Int) : Int)) = True := eq_true (of_decide_eq_true (by first | (with_reducible assumption) | assumption)); obtain ⟨ad145, A145_0, c145_0, e145, hx145_0, hl145_0, hi145_0⟩ := at_L1 (Kd.S_reads' HO_8.out).2.2 (ji77) p145 q145; obtain rfl : ad140 = ad145 := (by injection e145); obtain ⟨ce145, hce145, hMe145, hcc145⟩ := Kd.S_get HO_8.out [] (ji77) p145 (by first | exact q145 | exact of_decide_eq_true (by first | (with_reducible assumption) | assumption) | (have e_ := (Kd.S_reads' HO_8.out).1; omega)); obtain ⟨ve145_0, rfl, ge145_0⟩ := hMe145; have hv145_0 := hcc145 0 _ rfl; rw [Nat.add_zero, show ((Kd.slice 3 (Kd.int .i64))).sz = 1 from rfl, Nat.mul_one] at hv145_0; replace hv145_0 := Option.some.inj (hv145_0.symm.trans hx145_0); rw [hv145_0] at ge145_0; have HL145_0 := Aside0.mk (show Kd.R (Kd.int .i64) 3 _ _ _ _ (rd_L1 y144 (ji77)) from ge145_0); clear hv145_0 ge145_0; have HX145_0 := Aside0.mk hx145_0; clear hcc145 hce145; have HR145_0 := Aside0.mk hi145_0; have HC145_0 := Aside0.mk hl145_0; clear hi145_0 hl145_0; replace p145 := eq_true p145; replace q145 := eq_true q145; have p146 : 0 ≤ (x72_5 : Int) := of_decide_eq_true (by first | (with_reducible assumption) | assumption); have q146 : x72_5 < ((rd_L1 y144 (ji77)).length : Int) := of_decide_eq_true (by first | (with_reducible assumption) | assumption); obtain ⟨ad146, e146, hx146_0⟩ := Kd.at_int (by repeat (first | (with_reducible exact HR145_0.out) | (with_reducible refine Kd.C_alloc ?_ _) | (with_reducible refine Kd.C_drewN ?_ _) | (with_reducible refine Kd.C_drew ?_) | exact HR145_0.out)) x72_5 p146 q146; cases e146; replace p146 := eq_true p146; replace q146 := eq_true q146; have p81 : 0 ≤ (x72_5 : Int) := of_decide_eq_true (by first | (with_reducible assumption) | assumption); have q81 : (x72_5 : Int) < (((rd_L1 y144 (ji77)).length : Int) : Int) := of_decide_eq_true (by first | (with_reducible assumption) | assumption); obtain ⟨go81, co81, eo81, gb81, gl81, cl81, HG81⟩ := Kd.R_form HL145_0.out (by omega); (first | cases eo81 | (injection eo81 with ea_ en_ ec_; (first | subst ea_ | (injection ea_ with ea_; subst ea_)); subst ec_; clear en_)); have GB81 := Aside0.mk gb81; have GG81 := Aside0.mk HG81; clear gb81 gl81 HG81; (first | simp only [add_plain] at hx146_0 | skip); obtain ⟨hx81_0, hf81_0⟩ := Kd.R_celln 0 HL145_0.out (x72_5 : Int) p81 q81; replace p81 := eq_true p81; replace q81 := eq_true q81; have hq84 : ((ji77) : Int) < (x8_5.length : Int) := (by have h_ : ((ji77) : Int) < ((x8_5.length : Int) : Int) := of_decide_eq_true (by first | (with_reducible assumption) | assumption); first | exact h_ | (have e_ := (Kd.S_reads' HO_8.out).1; omega) | simpa only [Ny144.out, List.length_set] using h_); obtain ⟨oki84, ce84, hcl84, hM84, hcc84, hok84, hbk84⟩ := Kd.S_borrow HO_8.out [] ((ji77) : Int) (of_decide_eq_true (by first | (with_reducible assumption) | assumption)) hq84; obtain ⟨ve84_0, rfl, ge84_0⟩ := hM84; have hv84 := hcc84 0 _ rfl; rw [Nat.add_zero, show ((Kd.slice 3 (Kd.int .i64))).sz = 1 from rfl, Nat.mul_one] at hv84; replace hv84 := Option.some.inj (hv84.symm.trans HX145_0.out); subst hv84; clear hcc84 hcl84; replace ge84_0 := (show Kd.R (Kd.int .i64) 3 _ _ _ _ (rd_L1 y144 (ji77)) from ge84_0); have HP84 := Kd.R_putg ge84_0 (x72_5 : Int) (wrap64 ((rd (rd_L1 y144 (ji77)) x72_5) + (rd (rd_L1 x5_2 x65_4) x72_5)))) | ((with_reducible refine gate_store (t := 3) (p := 112) rfl ?_); refine store_event (t := 3) (p := 112) (v := ?vo_w85) (w1 := (w83.setCell ⟨go81, (x72_5 : Int).toNat, none⟩ (.int .i64 (wrap64 ((rd (rd_L1 y144 (ji77)) x72_5) + (rd (rd_L1 x5_2 x65_4) x72_5)))))) ?hg ?ho ?hn ?hr ?_; (case ho => rfl); (case hg => rfl); (case hn => rfl); (case hr => first | (go_simp; done) | (go_simp; rfl)); intro w85 hw; have hg : w83.grownBy w85 (some go81) := (by rw [hw]; exact HP84.2); have hz_ : Kd.R (Kd.int .i64) 3 w85 w.heap.size oki84 (.slice (some ⟨go81, 0, none⟩) (rd_L1 y144 (ji77)).length c145_0) y147 := (by rw [hw, Ny147.out]; exact HP84.1); have hp_ : Kd.S (Kd.slice 3 (Kd.int .i64)) 30 w85 w.heap.size (fun k_ => some k_ ≠ (v108 : Value).ownBlock ∧ NN ≤ k_) (.slice (some ad140) x8_5.length co36) y149 := (by rw [Ny149.out]; exact hbk84 hg (fun k_ e_ => by injection e_ with e_; subst e_; exact ge84_0.1 _ rfl) (Kd.M_row hz_)); have hm_ := Kd.R_mono hz_ hok84; clear HP84 hbk84; have nv_ := Aside0.mk (Kd.R_grown HV128.out hg (by intro k_ hk e_; have e2_ := Option.some.inj e_; have h2_ : NN ≤ go81 := (HL145_0.out.1 _ rfl).1.2; have h3_ : k_ < NN := hk; omega)); clear HV128; have HV128 := nv_; clear nv_; have n0_ := Aside0.mk (Kd.R_grown1 (by (with_reducible repeat (first | apply Kd.R_alloc | apply Kd.R_drewN | apply Kd.R_drew)); exact HO_4.out) rfl hg ((HL145_0.out.1 _ rfl).1.1)); have n1_ := Aside0.mk (hp_); have n2_ := Aside0.mk (Kd.S_grown (by (with_reducible repeat (first | apply Kd.S_alloc | apply Kd.S_drewN | apply Kd.S_drew)); exact HO_63.out) hg (by intro k_ hk e_; have e2_ := Option.some.inj e_; have h2_ : NN ≤ go81 := (HL145_0.out.1 _ rfl).1.2; have h3_ : k_ < NN := hk.2; omega)); have n3_ := Aside0.mk ((by rw [hw]; exact below_set (HB.out) GB81.out : Below w.heap.size w w85)); have n4_ := Aside0.mk (hm_); have n5_ := Aside0.mk ((Kd.R_reads' hm_).2.1); clear HO_4; clear HO_8; clear HO_63; clear HB; clear HL157; clear HL145_0; have HO_4 := n0_; have HO_8 := n1_; have HO_63 := n2_; have HB := n3_; have HL158 := n4_; have HC148 := n5_; clear n0_ n1_ n2_ n3_ n4_ n5_; clear hg hw hp_ hz_ hm_ hok84))
                                                                        (try simp only [← hl8_5])
                                                                        go_roundg k5
                                                                        case measure => have := HK1.out; have := HK2.out; have := HK3.out; have := HK4.out; have := HK5.out; omega
                                                                        case rel => exact ⟨(x4_5), (y149), (wrap64 (x72_5 + 1)), (by first | rfl | (simp; done) | (simp [*]; done)), H', ⟨by have := HK1.out; have := HK2.out; have := HK3.out; have := HK4.out; have := HK5.out; omega⟩, ⟨by (try simp only [hl5_1]); (try simp only [hl8_3]); (try simp only [hl8_4]); (try simp only [hl8_5]); (with_reducible repeat (first | apply Kd.R_alloc | apply Kd.R_drewN | apply Kd.R_drew)); exact HO_4.out⟩, ⟨by (try simp only [hl5_1]); (try simp only [hl8_3]); (try simp only [hl8_4]); (try simp only [hl8_5]); (with_reducible repeat (first | apply Kd.S_alloc | apply Kd.S_drewN | apply Kd.S_drew)); exact HO_8.out⟩, ⟨by (try simp only [hl5_1]); (try simp only [hl8_3]); (try simp only [hl8_4]); (try simp only [hl8_5]); (with_reducible repeat (first | apply Kd.S_alloc | apply Kd.S_drewN | apply Kd.S_drew)); exact HO_63.out⟩, ⟨by (with_reducible repeat (first | apply Kd.R_alloc | apply Kd.R_drewN | apply Kd.R_drew)); exact HV128.out⟩, ⟨by repeat (first | (with_reducible first | exact HB.out | apply below_alloc | apply pw_below_drewN | apply below_drew1) | exact HB.out)⟩⟩
                                                                      · rw [if_neg c80] at H
                                                                        exact absurd H (by simp)
                                                                    · rw [if_neg c79] at H
                                                                      exact absurd H (by simp)
                                                                  · rw [if_neg c78] at H
                                                                    exact absurd H (by simp)
                                                                · rw [if_neg c75] at H
                                                                  exact absurd H (by simp)
                                                              · rw [if_neg c74] at H
                                                                exact absurd H (by simp)
                                                            · rw [if_neg c73] at H
                                                              exact absurd H (by simp)
                                                      · rw [if_neg c55] at H
                                                        exact absurd H (by simp)
                                                    · rw [if_neg c54] at H
                                                      exact absurd H (by simp)
                                                  · rw [if_neg c53] at H
                                                    have c53b0 : decide (x72_5 < ((rd_L1 x5_2 x65_4).length : Int)) = false := decide_eq_false c53
                                                    (try (have c53b0h := c53b0; simp only [hl5_1] at c53b0h))
                                                    (try (have c53b0h := c53b0; simp only [hl8_3] at c53b0h))
                                                    (try (have c53b0h := c53b0; simp only [hl8_4] at c53b0h))
                                                    (try (have c53b0h := c53b0; simp only [hl8_5] at c53b0h))
                                                    clear c53
                                                    have H' := Aside0.mk H
                                                    clear H
                                                    go_wp2
                                                    (try simp only [← hl8_4, ← hl8_5])
                                                    go_roundg k5
                                                    case measure => have := HK1.out; have := HK2.out; have := HK3.out; have := HK4.out; have := HK5.out; omega
                                                    case rel => exact ⟨(x4_5), (x8_5), (wrap64 (x65_4 + 1)), (by first | rfl | (simp; done) | (simp [*]; done)), H', ⟨by have := HK1.out; have := HK2.out; have := HK3.out; have := HK4.out; have := HK5.out; omega⟩, ⟨by (try simp only [hl5_1]); (try simp only [hl8_3]); (try simp only [hl8_4]); (try simp only [hl8_5]); (with_reducible repeat (first | apply Kd.R_alloc | apply Kd.R_drewN | apply Kd.R_drew)); exact HO_4.out⟩, ⟨by (try simp only [hl5_1]); (try simp only [hl8_3]); (try simp only [hl8_4]); (try simp only [hl8_5]); (with_reducible repeat (first | apply Kd.S_alloc | apply Kd.S_drewN | apply Kd.S_drew)); exact HO_8.out⟩, ⟨by (try simp only [hl5_1]); (try simp only [hl8_3]); (try simp only [hl8_4]); (try simp only [hl8_5]); (with_reducible repeat (first | apply Kd.S_alloc | apply Kd.S_drewN | apply Kd.S_drew)); exact HO_63.out⟩, ⟨by repeat (first | (with_reducible first | exact HB.out | apply below_alloc | apply pw_below_drewN | apply below_drew1) | exact HB.out)⟩⟩
                                            · rw [if_neg c52] at H
                                              exact absurd H (by simp)
                                          · rw [if_neg c51] at H
                                            exact absurd H (by simp)
                                        · rw [if_neg c50] at H
                                          have c50b0 : decide (x65_4 < (x5_2.length : Int)) = false := decide_eq_false c50
                                          (try (have c50b0h := c50b0; simp only [hl5_1] at c50b0h))
                                          (try (have c50b0h := c50b0; simp only [hl8_3] at c50b0h))
                                          (try (have c50b0h := c50b0; simp only [hl8_4] at c50b0h))
                                          clear c50
                                          have H' := Aside0.mk H
                                          clear H
                                          go_wp2
                                          (try simp only [← hl8_3, ← hl8_4])
                                          go_roundg k4
                                          case measure => have := HK1.out; have := HK2.out; have := HK3.out; have := HK4.out; omega
                                          case rel => exact ⟨(x4_4), (x8_4), (wrap64 (x7_2 + 1)), (by first | rfl | (simp; done) | (simp [*]; done)), H', ⟨by have := HK1.out; have := HK2.out; have := HK3.out; have := HK4.out; omega⟩, ⟨by (try simp only [hl5_1]); (try simp only [hl8_3]); (try simp only [hl8_4]); (with_reducible repeat (first | apply Kd.R_alloc | apply Kd.R_drewN | apply Kd.R_drew)); exact HO_4.out⟩, ⟨by (try simp only [hl5_1]); (try simp only [hl8_3]); (try simp only [hl8_4]); (with_reducible repeat (first | apply Kd.S_alloc | apply Kd.S_drewN | apply Kd.S_drew)); exact Kd.S_mono HO_8.out (fun _ hk => hk.1)⟩, ⟨by repeat (first | (with_reducible first | exact HB.out | apply below_alloc | apply pw_below_drewN | apply below_drew1) | exact HB.out)⟩⟩
                            · rw [if_neg c33] at H
                              exact absurd H (by simp)
                          · rw [if_neg c32] at H
                            exact absurd H (by simp)
                        · rw [if_neg c30] at H
                          have c30b0 : decide (x7_2 < a0) = false := decide_eq_false c30
                          clear c30
                          have H' := Aside0.mk H
                          clear H
                          obtain ⟨Ao86, co86, eo86⟩ := Kd.S_slice HO_5.out
                          subst eo86
                          go_wp2
                          go_loopg [118] k2 (fun kq v118 w' => ∃ (x4_3 : List Int) (x118_3 : Int), v118 = .int .i64 x118_3 ∧ Aside0 (spec_CountByRecords.l5 kq x4_3 x5_2 (x5_2.length : Int) x118_3 = some (r1, r2)) ∧ Aside0 (kq ≤ k2) ∧ Aside0 (Kd.R (Kd.int .i64) 3 w' w.heap.size (fun _ => True) v108 x4_3) ∧ Aside0 (Kd.S (Kd.slice 3 (Kd.int .i64)) 30 w' w.heap.size (fun k_ => some k_ ≠ (v108 : Value).ownBlock) (.slice Ao86 x5_2.length co86) x5_2) ∧ Aside0 (Below w.heap.size w w'))
                          case atStart => exact ⟨(x4_2), (0), (by first | rfl | (simp; done) | (simp [*]; done)), H', ⟨Nat.le_refl _⟩, ⟨by (try simp only [hl5_1]); (with_reducible repeat (first | apply Kd.R_alloc | apply Kd.R_drewN | apply Kd.R_drew)); exact HO_4.out⟩, ⟨by (try simp only [hl5_1]); (with_reducible repeat (first | apply Kd.S_alloc | apply Kd.S_drewN | apply Kd.S_drew)); exact HO_5.out⟩, ⟨by repeat (first | (with_reducible first | exact HB.out | apply below_alloc | apply pw_below_drewN | apply below_drew1) | exact HB.out)⟩⟩
                          case round =>
                            clear H'
                            try clear c1
                            try clear p1
                            try clear q1
                            try clear hx1
                            try clear qi1
                            try clear hf1
                            try clear c2
                            try clear p2
                            try clear q2
                            try clear hx2
                            try clear qi2
                            try clear hf2
                            try clear c3
                            try clear c4
                            try clear p4
                            try clear q4
                            try clear hx4
                            try clear hf4
                            try clear c5
                            try clear c5b0
                            try clear c5b1
                            try clear c6
                            try clear c6b0
                            try clear c6b1
                            try clear p6
                            try clear q6
                            try clear hx6
                            try clear hf6
                            try clear c7
                            try clear c7b0
                            try clear c7b1
                            try clear p7
                            try clear q7
                            try clear hx7
                            try clear hf7
                            try clear c8
                            try clear p8
                            try clear q8
                            try clear hx8
                            try clear hf8
                            try clear c11
                            try clear p11
                            try clear q11
                            try clear hx11
                            try clear qi11
                            try clear c12
                            try clear p12
                            try clear q12
                            try clear hx12
                            try clear c13
                            try clear c13b0
                            try clear p13
                            try clear q13
                            try clear hx13
                            try clear qi13
                            try clear c14
                            try clear p14
                            try clear q14
                            try clear hx14
                            try clear c15
                            try clear c15b0
                            try clear c15b1
                            try clear c16
                            try clear c16b0
                            try clear c16b1
                            try clear c17
                            try clear c17b0
                            try clear c18
                            try clear c18b0
                            try clear c19
                            try clear p19
                            try clear q19
                            try clear hx19
                            try clear hf19
                            try clear c23
                            try clear hx23
                            try clear hf23
                            try clear c25
                            try clear c25b0
                            try clear c25b1
                            try clear c26
                            try clear c26b0
                            try clear c26b1
                            try clear p27
                            try clear q27
                            try clear hx27
                            try clear qi27
                            try clear hf27
                            try clear c28
                            try clear q28
                            try clear c30
                            try clear c30b0
                            try clear c32
                            try clear c32b0
                            try clear c32b1
                            try clear c33
                            try clear c33b0
                            try clear c33b1
                            try clear c37
                            try clear c37b0
                            try clear c39
                            try clear c39b0
                            try clear c39b1
                            try clear c40
                            try clear c40b0
                            try clear c40b1
                            try clear c41
                            try clear c41b0
                            try clear c42
                            try clear c42b0
                            try clear c43
                            try clear p43
                            try clear q43
                            try clear hx43
                            try clear hf43
                            try clear c44
                            try clear c46
                            try clear c47
                            try clear hx47
                            try clear hf47
                            try clear c50
                            try clear c50b0
                            try clear c51
                            try clear c51b0
                            try clear c52
                            try clear c52b0
                            try clear c53
                            try clear c53b0
                            try clear c54
                            try clear c54b0
                            try clear c55
                            try clear c55b0
                            try clear c56
                            try clear c56b0
                            try clear c56b1
                            try clear c57
                            try clear c57b0
                            try clear c57b1
                            try clear c58
                            try clear c58b0
                            try clear c58b1
                            try clear c60
                            try clear c60b0
                            try clear c61
                            try clear c61b0
                            try clear p62
                            try clear q62
                            try clear hx62
                            try clear hf62
                            try clear c64
                            try clear c64b0
                            try clear p64
                            try clear c65
                            try clear c65b0
                            try clear c66
                            try clear c66b0
                            try clear p67
                            try clear q67
                            try clear hx67
                            try clear hf67
                            try clear c68
                            try clear q68
                            try clear c70
                            try clear q70
                            try clear c73
                            try clear c73b0
                            try clear c74
                            try clear c74b0
                            try clear c75
                            try clear c75b0
                            try clear p76
                            try clear q76
                            try clear hx76
                            try clear hf76
                            try clear c78
                            try clear c78b0
                            try clear c79
                            try clear c79b0
                            try clear c80
                            try clear c80b0
                            try clear p81
                            try clear q81
                            try clear hx81
                            try clear hf81
                            try clear c82
                            try clear q82
                            try clear c84
                            try clear q84
                            try clear hx117_0
                            try clear hx128_0
                            try clear hx129_0
                            try clear hx130_0
                            try clear hx131_0
                            try clear hx135_0
                            try clear hx136_0
                            try clear hx140_0
                            try clear hx141_0
                            try clear hx145_0
                            try clear hx146_0
                            try clear hx19_0
                            try clear hx23_0
                            try clear hx27_0
                            try clear hx43_0
                            try clear hx47_0
                            try clear hx62_0
                            try clear hx67_0
                            try clear hx76_0
                            try clear hx81_0
                            try clear p1
                            try clear p11
                            try clear p117
                            try clear p12
                            try clear p128
                            try clear p129
                            try clear p130
                            try clear p131
                            try clear p135
                            try clear p136
                            try clear p140
                            try clear p141
                            try clear p145
                            try clear p146
                            try clear p19
                            try clear p2
                            try clear p27
                            try clear p4
                            try clear p43
                            try clear p6
                            try clear p62
                            try clear p67
                            try clear p76
                            try clear p81
                            try clear q1
                            try clear q11
                            try clear q117
                            try clear q12
                            try clear q128
                            try clear q129
                            try clear q130
                            try clear q131
                            try clear q135
                            try clear q136
                            try clear q140
                            try clear q141
                            try clear q145
                            try clear q146
                            try clear q19
                            try clear q2
                            try clear q27
                            try clear q28
                            try clear q4
                            try clear q43
                            try clear q62
                            try clear q67
                            try clear q76
                            try clear q81
                            obtain ⟨x4_3, x118_3, rfl, HA, HK3, HO_4, HO_116, HB⟩ := hrel
                            cases gk with
                            | zero => exact absurd HA.out (by simp [spec_CountByRecords.l5])
                            | succ k3 =>
                              have H := HA.out
                              clear HA
                              simp only [spec_CountByRecords.l5] at H
                              by_cases c87 : x118_3 < (x5_2.length : Int)
                              · rw [if_pos c87] at H
                                have c87b0 : decide (x118_3 < (x5_2.length : Int)) = true := decide_eq_true c87
                                (try (have c87b0h := c87b0; simp only [hl5_1] at c87b0h))
                                clear c87
                                by_cases c88 : 0 ≤ x118_3
                                · rw [if_pos c88] at H
                                  have c88b0 : decide (0 ≤ x118_3) = true := decide_eq_true c88
                                  clear c88
                                  by_cases c89 : x118_3 < (x5_2.length : Int)
                                  · rw [if_pos c89] at H
                                    have c89b0 : decide (x118_3 < (x5_2.length : Int)) = true := decide_eq_true c89
                                    (try (have c89b0h := c89b0; simp only [hl5_1] at c89b0h))
                                    clear c89
                                    have H' := Aside0.mk H
                                    clear H
                                    have p150 : 0 ≤ (x118_3 : Int) := of_decide_eq_true (by first | (with_reducible assumption) | assumption)
                                    have q150 : x118_3 < (x5_2.length : Int) := of_decide_eq_true (by first | (with_reducible assumption) | assumption)
                                    obtain ⟨ad150, A150_0, c150_0, e150, hx150_0, hl150_0, hi150_0⟩ := at_L1 (Kd.S_reads' HO_116.out).2.2 x118_3 p150 q150
                                    cases e150
                                    obtain ⟨ce150, hce150, hMe150, hcc150⟩ := Kd.S_get HO_116.out [] x118_3 p150 (by first | exact q150 | exact of_decide_eq_true (by first | (with_reducible assumption) | assumption) | (have e_ := (Kd.S_reads' HO_116.out).1; omega))
                                    obtain ⟨ve150_0, rfl, ge150_0⟩ := hMe150
                                    have hv150_0 := hcc150 0 _ rfl
                                    rw [Nat.add_zero, show ((Kd.slice 3 (Kd.int .i64))).sz = 1 from rfl, Nat.mul_one] at hv150_0
                                    replace hv150_0 := Option.some.inj (hv150_0.symm.trans hx150_0)
                                    rw [hv150_0] at ge150_0
                                    have HL150_0 := Aside0.mk (show Kd.R (Kd.int .i64) 3 _ _ _ _ (rd_L1 x5_2 x118_3) from ge150_0)
                                    clear hv150_0 ge150_0
                                    have HX150_0 := Aside0.mk hx150_0
                                    clear hcc150 hce150
                                    have HR150_0 := Aside0.mk hi150_0
                                    have HC150_0 := Aside0.mk hl150_0
                                    clear hi150_0 hl150_0
                                    replace p150 := eq_true p150
                                    replace q150 := eq_true q150
                                    go_wp2
                                    go_loopg [124] k3 (fun kq v124 w' => ∃ (x4_4 : List Int) (x124_4 : Int), v124 = .int .i64 x124_4 ∧ Aside0 (spec_CountByRecords.l6 kq x4_4 x5_2 (x5_2.length : Int) x118_3 (rd_L1 x5_2 x118_3) ((rd_L1 x5_2 x118_3).length : Int) x124_4 = some (r1, r2)) ∧ Aside0 (kq ≤ k3) ∧ Aside0 (Kd.R (Kd.int .i64) 3 w' w.heap.size (fun _ => True) v108 x4_4) ∧ Aside0 (Kd.S (Kd.slice 3 (Kd.int .i64)) 30 w' w.heap.size (fun k_ => some k_ ≠ (v108 : Value).ownBlock) (.slice (some ad150) x5_2.length co86) x5_2) ∧ Aside0 (Kd.R (Kd.int .i64) 3 w' w.heap.size (fun k_ => some k_ ≠ (v108 : Value).ownBlock) (.slice A150_0 (rd_L1 x5_2 x118_3).length c150_0) (rd_L1 x5_2 x118_3)) ∧ Aside0 (Below w.heap.size w w'))
                                    case atStart => exact ⟨(x4_3), (0), (by first | rfl | (simp; done) | (simp [*]; done)), H', ⟨Nat.le_refl _⟩, ⟨by (try simp only [hl5_1]); (with_reducible repeat (first | apply Kd.R_alloc | apply Kd.R_drewN | apply Kd.R_drew)); exact HO_4.out⟩, ⟨by (try simp only [hl5_1]); (with_reducible repeat (first | apply Kd.S_alloc | apply Kd.S_drewN | apply Kd.S_drew)); exact HO_116.out⟩, ⟨by (with_reducible repeat (first | apply Kd.R_alloc | apply Kd.R_drewN | apply Kd.R_drew)); exact Kd.R_mono HL150_0.out (fun _ hk => hk.1)⟩, ⟨by repeat (first | (with_reducible first | exact HB.out | apply below_alloc | apply pw_below_drewN | apply below_drew1) | exact HB.out)⟩⟩
                                    case round =>
                                      clear H'
                                      try clear c1
                                      try clear p1
                                      try clear q1
                                      try clear hx1
                                      try clear qi1
                                      try clear hf1
                                      try clear c2
                                      try clear p2
                                      try clear q2
                                      try clear hx2
                                      try clear qi2
                                      try clear hf2
                                      try clear c3
                                      try clear c4
                                      try clear p4
                                      try clear q4
                                      try clear hx4
                                      try clear hf4
                                      try clear c5
                                      try clear c5b0
                                      try clear c5b1
                                      try clear c6
                                      try clear c6b0
                                      try clear c6b1
                                      try clear p6
                                      try clear q6
                                      try clear hx6
                                      try clear hf6
                                      try clear c7
                                      try clear c7b0
                                      try clear c7b1
                                      try clear p7
                                      try clear q7
                                      try clear hx7
                                      try clear hf7
                                      try clear c8
                                      try clear p8
                                      try clear q8
                                      try clear hx8
                                      try clear hf8
                                      try clear c11
                                      try clear p11
                                      try clear q11
                                      try clear hx11
                                      try clear qi11
                                      try clear c12
                                      try clear p12
                                      try clear q12
                                      try clear hx12
                                      try clear c13
                                      try clear c13b0
                                      try clear p13
                                      try clear q13
                                      try clear hx13
                                      try clear qi13
                                      try clear c14
                                      try clear p14
                                      try clear q14
                                      try clear hx14
                                      try clear c15
                                      try clear c15b0
                                      try clear c15b1
                                      try clear p15
                                      try clear q15
                                      try clear hx15
                                      try clear c16
                                      try clear c16b0
                                      try clear c16b1
                                      try clear c17
                                      try clear c17b0
                                      try clear c18
                                      try clear c18b0
                                      try clear c19
                                      try clear p19
                                      try clear q19
                                      try clear hx19
                                      try clear hf19
                                      try clear c23
                                      try clear hx23
                                      try clear hf23
                                      try clear c25
                                      try clear c25b0
                                      try clear c25b1
                                      try clear c26
                                      try clear c26b0
                                      try clear c26b1
                                      try clear p27
                                      try clear q27
                                      try clear hx27
                                      try clear qi27
                                      try clear hf27
                                      try clear c28
                                      try clear q28
                                      try clear c30
                                      try clear c30b0
                                      try clear c32
                                      try clear c32b0
                                      try clear c32b1
                                      try clear c33
                                      try clear c33b0
                                      try clear c33b1
                                      try clear c37
                                      try clear c37b0
                                      try clear c39
                                      try clear c39b0
                                      try clear c39b1
                                      try clear c40
                                      try clear c40b0
                                      try clear c40b1
                                      try clear c41
                                      try clear c41b0
                                      try clear c42
                                      try clear c42b0
                                      try clear c43
                                      try clear p43
                                      try clear q43
                                      try clear hx43
                                      try clear hf43
                                      try clear c44
                                      try clear c46
                                      try clear c47
                                      try clear hx47
                                      try clear hf47
                                      try clear c50
                                      try clear c50b0
                                      try clear c51
                                      try clear c51b0
                                      try clear c52
                                      try clear c52b0
                                      try clear c53
                                      try clear c53b0
                                      try clear c54
                                      try clear c54b0
                                      try clear c55
                                      try clear c55b0
                                      try clear c56
                                      try clear c56b0
                                      try clear c56b1
                                      try clear c57
                                      try clear c57b0
                                      try clear c57b1
                                      try clear c58
                                      try clear c58b0
                                      try clear c58b1
                                      try clear c60
                                      try clear c60b0
                                      try clear c61
                                      try clear c61b0
                                      try clear p62
                                      try clear q62
                                      try clear hx62
                                      try clear hf62
                                      try clear c64
                                      try clear c64b0
                                      try clear p64
                                      try clear c65
                                      try clear c65b0
                                      try clear c66
                                      try clear c66b0
                                      try clear p67
                                      try clear q67
                                      try clear hx67
                                      try clear hf67
                                      try clear c68
                                      try clear q68
                                      try clear c70
                                      try clear q70
                                      try clear c73
                                      try clear c73b0
                                      try clear c74
                                      try clear c74b0
                                      try clear c75
                                      try clear c75b0
                                      try clear p76
                                      try clear q76
                                      try clear hx76
                                      try clear hf76
                                      try clear c78
                                      try clear c78b0
                                      try clear c79
                                      try clear c79b0
                                      try clear c80
                                      try clear c80b0
                                      try clear p81
                                      try clear q81
                                      try clear hx81
                                      try clear hf81
                                      try clear c82
                                      try clear q82
                                      try clear c84
                                      try clear q84
                                      try clear c87
                                      try clear c87b0
                                      try clear c88
                                      try clear c88b0
                                      try clear c89
                                      try clear c89b0
                                      try clear hx117_0
                                      try clear hx128_0
                                      try clear hx129_0
                                      try clear hx130_0
                                      try clear hx131_0
                                      try clear hx135_0
                                      try clear hx136_0
                                      try clear hx140_0
                                      try clear hx141_0
                                      try clear hx145_0
                                      try clear hx146_0
                                      try clear hx150_0
                                      try clear hx19_0
                                      try clear hx23_0
                                      try clear hx27_0
                                      try clear hx43_0
                                      try clear hx47_0
                                      try clear hx62_0
                                      try clear hx67_0
                                      try clear hx76_0
                                      try clear hx81_0
                                      try clear p1
                                      try clear p11
                                      try clear p117
                                      try clear p12
                                      try clear p128
                                      try clear p129
                                      try clear p13
                                      try clear p130
                                      try clear p131
                                      try clear p135
                                      try clear p136
                                      try clear p14
                                      try clear p140
                                      try clear p141
                                      try clear p145
                                      try clear p146
                                      try clear p150
                                      try clear p19
                                      try clear p2
                                      try clear p27
                                      try clear p4
                                      try clear p43
                                      try clear p6
                                      try clear p62
                                      try clear p64
                                      try clear p67
                                      try clear p7
                                      try clear p76
                                      try clear p8
                                      try clear p81
                                      try clear q1
                                      try clear q11
                                      try clear q117
                                      try clear q12
                                      try clear q128
                                      try clear q129
                                      try clear q13
                                      try clear q130
                                      try clear q131
                                      try clear q135
                                      try clear q136
                                      try clear q14
                                      try clear q140
                                      try clear q141
                                      try clear q145
                                      try clear q146
                                      try clear q150
                                      try clear q19
                                      try clear q2
                                      try clear q27
                                      try clear q28
                                      try clear q4
                                      try clear q43
                                      try clear q6
                                      try clear q62
                                      try clear q67
                                      try clear q68
                                      try clear q7
                                      try clear q70
                                      try clear q76
                                      try clear q8
                                      try clear q81
                                      try clear q82
                                      try clear q84
                                      obtain ⟨x4_4, x124_4, rfl, HA, HK4, HO_4, HO_116, HV150, HB⟩ := hrel
                                      cases gk with
                                      | zero => exact absurd HA.out (by simp [spec_CountByRecords.l6])
                                      | succ k4 =>
                                        have H := HA.out
                                        clear HA
                                        simp only [spec_CountByRecords.l6] at H
                                        by_cases c90 : x124_4 < ((rd_L1 x5_2 x118_3).length : Int)
                                        · rw [if_pos c90] at H
                                          have c90b0 : decide (x124_4 < ((rd_L1 x5_2 x118_3).length : Int)) = true := decide_eq_true c90
                                          (try (have c90b0h := c90b0; simp only [hl5_1] at c90b0h))
                                          clear c90
                                          by_cases c91 : 0 ≤ x124_4
                                          · rw [if_pos c91] at H
                                            have c91b0 : decide (0 ≤ x124_4) = true := decide_eq_true c91
                                            clear c91
                                            by_cases c92 : x124_4 < ((rd_L1 x5_2 x118_3).length : Int)
                                            · rw [if_pos c92] at H
                                              have c92b0 : decide (x124_4 < ((rd_L1 x5_2 x118_3).length : Int)) = true := decide_eq_true c92
                                              (try (have c92b0h := c92b0; simp only [hl5_1] at c92b0h))
                                              clear c92
                                              by_cases c93 : x124_4 < (x4_4.length : Int)
                                              · rw [if_pos c93] at H
                                                have c93b0 : decide (x124_4 < (x4_4.length : Int)) = true := decide_eq_true c93
                                                (try (have c93b0h := c93b0; simp only [hl5_1] at c93b0h))
                                                clear c93
                                                obtain ⟨y153, hy153⟩ : ∃ y_ : List Int, y_ = (x4_4.set (x124_4 : Int).toNat (wrap64 ((rd x4_4 x124_4) + (rd (rd_L1 x5_2 x118_3) x124_4)))) := ⟨_, rfl⟩
                                                replace H : (spec_CountByRecords.l6 k4 y153 x5_2 (x5_2.length : Int) x118_3 (rd_L1 x5_2 x118_3) ((rd_L1 x5_2 x118_3).length : Int) (wrap64 (x124_4 + 1))) = some (r1, r2) := by first | (rw [hy153]; with_reducible exact H) | (have H2_ := (Option.bind_some _ _).symm.trans H; rw [hy153]; with_reducible exact H2_) | (have H2_ := (Option.bind_some _ _).symm.trans H; with_reducible exact H2_) | with_reducible exact H | (rw [hy153]; exact H) | exact H
                                                have Ny153 := Aside0.mk hy153
                                                clear hy153
                                                have H' := Aside0.mk H
                                                clear H
                                                have p151 : 0 ≤ (x124_4 : Int) := of_decide_eq_true (by first | (with_reducible assumption) | assumption)
                                                have q151 : x124_4 < ((rd_L1 x5_2 x118_3).length : Int) := of_decide_eq_true (by first | (with_reducible assumption) | assumption)
                                                obtain ⟨ad151, e151, hx151_0⟩ := Kd.at_int (Kd.R_reads' HV150.out).2.2 x124_4 p151 q151
                                                cases e151
                                                (try replace hx151_0 := (HB.out.cell (World.block_lt_of_cell? w _ hx151_0)).trans hx151_0)
                                                replace p151 := eq_true p151
                                                replace q151 := eq_true q151
                                                obtain ⟨Ao95, co95, eo95⟩ := Kd.R_slice HO_4.out
                                                subst eo95
                                                have p152 : 0 ≤ (x124_4 : Int) := of_decide_eq_true (by first | (with_reducible assumption) | assumption)
                                                have q152 : x124_4 < (x4_4.length : Int) := of_decide_eq_true (by first | (with_reducible assumption) | assumption)
                                                obtain ⟨ad152, e152, hx152_0⟩ := Kd.at_int (Kd.R_reads' HO_4.out).2.2 x124_4 p152 q152
                                                cases e152
                                                replace p152 := eq_true p152
                                                replace q152 := eq_true q152
                                                have p94 : 0 ≤ (x124_4 : Int) := of_decide_eq_true (by first | (with_reducible assumption) | assumption)
                                                have q94 : (x124_4 : Int) < ((x4_4.length : Int) : Int) := of_decide_eq_true (by first | (with_reducible assumption) | assumption)
                                                obtain ⟨go94, co94, eo94, gb94, gl94, cl94, HG94⟩ := Kd.R_form HO_4.out (by omega)
                                                (first | cases eo94 | (injection eo94 with ea_ en_ ec_; (first | subst ea_ | (injection ea_ with ea_; subst ea_)); subst ec_; clear en_))
                                                have GB94 := Aside0.mk gb94
                                                have GG94 := Aside0.mk HG94
                                                clear gb94 gl94 HG94
                                                (first | simp only [add_plain] at hx152_0 | skip)
                                                obtain ⟨hx94_0, hf94_0⟩ := Kd.R_celln 0 HO_4.out (x124_4 : Int) p94 q94
                                                replace p94 := eq_true p94
                                                replace q94 := eq_true q94
                                                have HP96 := Kd.R_putg HO_4.out (x124_4 : Int) (wrap64 ((rd x4_4 x124_4) + (rd (rd_L1 x5_2 x118_3) x124_4)))
                                                go_wp2_with (first | ((with_reducible refine gate_store (t := 3) (p := 135) rfl ?_); refine store_event (t := 3) (p := 135) (v := ?vo_w97) (w1 := (wr.setCell ⟨go94, (x124_4 : Int).toNat, none⟩ (.int .i64 (wrap64 ((rd x4_4 x124_4) + (rd (rd_L1 x5_2 x118_3) x124_4)))))) ?hg ?ho ?hn ?hr ?_; (case ho => rfl); (case hg => rfl); (case hn => rfl); (case hr => first | (go_simp; done) | (go_simp; rfl)); intro w97 hw; have hg : wr.grownBy w97 (some go94) := (by rw [hw]; exact HP96.2); have hp_ : Kd.R (Kd.int .i64) 3 w97 w.heap.size (fun _ => True) (.slice (some ⟨go94, 0, none⟩) x4_4.length co95) y153 := (by rw [hw, Ny153.out]; exact HP96.1); clear HP96; have nv_ := Aside0.mk (Kd.R_grown HV150.out hg (fun _ hk => hk)); clear HV150; have HV150 := nv_; clear nv_; have n0_ := Aside0.mk (hp_); have n1_ := Aside0.mk (Kd.S_after (v := (.slice (some ⟨go94, 0, none⟩) x4_4.length co95)) (v1 := (.slice (some ⟨go94, 0, none⟩) x4_4.length co95)) (ok := (fun _ => True)) (by (with_reducible repeat (first | apply Kd.S_alloc | apply Kd.S_drewN | apply Kd.S_drew)); exact Kd.S_mono HO_116.out (fun _ hk => ⟨trivial, hk⟩)) hg (.inl rfl)); have n2_ := Aside0.mk ((by rw [hw]; exact below_set (HB.out) GB94.out : Below w.heap.size w w97)); clear HO_4; clear HO_116; clear HB; have HO_4 := n0_; have HO_116 := n1_; have HB := n2_; clear n0_ n1_ n2_; clear hg hw hp_))
                                                go_roundg k4
                                                case measure => have := HK1.out; have := HK2.out; have := HK3.out; have := HK4.out; omega
                                                case rel => exact ⟨(y153), (wrap64 (x124_4 + 1)), (by first | rfl | (simp; done) | (simp [*]; done)), H', ⟨by have := HK1.out; have := HK2.out; have := HK3.out; have := HK4.out; omega⟩, ⟨by (try simp only [hl5_1]); (with_reducible repeat (first | apply Kd.R_alloc | apply Kd.R_drewN | apply Kd.R_drew)); exact HO_4.out⟩, ⟨by (try simp only [hl5_1]); (with_reducible repeat (first | apply Kd.S_alloc | apply Kd.S_drewN | apply Kd.S_drew)); exact Kd.S_mono HO_116.out (fun _ hk => hk.2)⟩, ⟨by (with_reducible repeat (first | apply Kd.R_alloc | apply Kd.R_drewN | apply Kd.R_drew)); exact HV150.out⟩, ⟨by repeat (first | (with_reducible first | exact HB.out | apply below_alloc | apply pw_below_drewN | apply below_drew1) | exact HB.out)⟩⟩
                                              · rw [if_neg c93] at H
                                                exact absurd H (by simp)
                                            · rw [if_neg c92] at H
                                              exact absurd H (by simp)
                                          · rw [if_neg c91] at H
                                            exact absurd H (by simp)
                                        · rw [if_neg c90] at H
                                          have c90b0 : decide (x124_4 < ((rd_L1 x5_2 x118_3).length : Int)) = false := decide_eq_false c90
                                          (try (have c90b0h := c90b0; simp only [hl5_1] at c90b0h))
                                          clear c90
                                          have H' := Aside0.mk H
                                          clear H
                                          go_wp2
                                          go_roundg k4
                                          case measure => have := HK1.out; have := HK2.out; have := HK3.out; have := HK4.out; omega
                                          case rel => exact ⟨(x4_4), (wrap64 (x118_3 + 1)), (by first | rfl | (simp; done) | (simp [*]; done)), H', ⟨by have := HK1.out; have := HK2.out; have := HK3.out; have := HK4.out; omega⟩, ⟨by (try simp only [hl5_1]); (with_reducible repeat (first | apply Kd.R_alloc | apply Kd.R_drewN | apply Kd.R_drew)); exact HO_4.out⟩, ⟨by (try simp only [hl5_1]); (with_reducible repeat (first | apply Kd.S_alloc | apply Kd.S_drewN | apply Kd.S_drew)); exact HO_116.out⟩, ⟨by repeat (first | (with_reducible first | exact HB.out | apply below_alloc | apply pw_below_drewN | apply below_drew1) | exact HB.out)⟩⟩
                                  · rw [if_neg c89] at H
                                    exact absurd H (by simp)
                                · rw [if_neg c88] at H
                                  exact absurd H (by simp)
                              · rw [if_neg c87] at H
                                have c87b0 : decide (x118_3 < (x5_2.length : Int)) = false := decide_eq_false c87
                                (try (have c87b0h := c87b0; simp only [hl5_1] at c87b0h))
                                clear c87
                                simp only [Option.some.injEq, Prod.mk.injEq] at H
                                obtain ⟨rfl, rfl⟩ := H
                                go_wp2
                                go_ret2
                                exact ⟨_, by first | rfl | (simp [errW_none, errW_some] <;> rfl) | (simp only [← hji4]; first | rfl | (simp [errW_none, errW_some] <;> rfl)) | (simp [*, errW_none, errW_some] <;> rfl), by (with_reducible repeat (first | apply Kd.R_alloc | apply Kd.R_drewN | apply Kd.R_drew)); exact HO_4.out, by repeat (first | (with_reducible first | exact HB.out | apply below_alloc | apply pw_below_drewN | apply below_drew1) | exact HB.out)⟩
                  · rw [if_neg c26] at H
                    exact absurd H (by simp)
                · rw [if_neg c25] at H
                  exact absurd H (by simp)
        · rw [if_neg c7] at H
          exact absurd H (by simp)
      · rw [if_neg c6] at H
        exact absurd H (by simp)
    · rw [if_neg c5] at H
      exact absurd H (by simp)
  · replace c3 := Bool.eq_false_iff.mpr c3
    subst c3
    have H1 : (some (([] : List Int), false)) = some (r1, r2) := by rw [if_neg (show ¬ (false = true) by decide)] at H; exact H
    clear H
    have H := H1
    clear H1
    simp only [Option.some.injEq, Prod.mk.injEq] at H
    obtain ⟨rfl, rfl⟩ := H
    go_enter Try.func44, Try.ntmps44
    go_wp2_with (first | ((with_reducible refine gate_callee (f := 46) rfl ?_); refine goesL_ (some 19) rfl rfl Try.func46 (by kernel_rfl) rfl #[.int .i64 a0] rfl (by (try simp only [List.map_toArray, List.map_cons, List.map_nil]); first | done | rfl | (simp only [List.length_drop, List.length_take]; rfl)) ?_; (with_reducible refine (spec_reGood.calls a0 false _ A2.out).mono ?_); rintro e w' ⟨rfl, ⟨nd, rfl⟩⟩; refine ⟨_, rfl, ?_⟩))
    go_ret2
    exact ⟨_, by first | rfl | (simp [errW_none, errW_some] <;> rfl) | (simp [*, errW_none, errW_some] <;> rfl), by first | exact Kd.R_nil _ _ _ _ _ | exact Kd.N_nil _ _ _ _ _ | exact Kd.V_nil _ _ _ _ _ | exact Kd.Q_nil _ _ _ _ _ | exact Kd.S_nil _ _ _ _ _, by repeat (first | (with_reducible first | exact HB.out | apply below_alloc | apply pw_below_drewN | apply below_drew1) | exact HB.out)⟩

end Go.Proofs.Ytjammocipljgfaa.QFnExactCountByRecords
