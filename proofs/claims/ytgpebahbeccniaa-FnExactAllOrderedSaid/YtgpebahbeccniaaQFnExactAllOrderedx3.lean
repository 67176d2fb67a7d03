/- Written by a program of this repo (xprint: a turned copy of the kit's print, with our own templates in it); Lean checks all of it. -/
import Derived.Test.YtgpebahbeccniaaQFnExactAllOrderedx0
import Derived.Test.YtgpebahbeccniaaQFnExactAllOrderedx2
namespace Go.Proofs.Ytgpebahbeccniaa.QFnExactAllOrdered
open Go.RowKit Go.Proofs.YtgpebahbeccniaaZ Go.Proofs.YtgpebahbeccniaaZm Go.Maps Go.Proofs.YtgpebahbeccniaaZt Go.Proofs.YtgpebahbeccniaaW.PrintWords Go.Proofs.YtgpebahbeccniaaW.PrintLast Go.Proofs.YtgpebahbeccniaaW.PrintMore
attribute [local go_sem] max2_int min2_int max_two min_two max_three min_three max_four min_four   -- for this text's walks alone
set_option linter.unusedVariables false
set_option linter.unusedSimpArgs false

/-! ### spec_voCount: function 37 -/
mutual
def spec_voCount.l0 : Nat → List Int → Int → List Int → Int → Int → Option (Int)
  | 0, _, _, _, _, _ => none
  | k + 1, x0, x3, x13, x14, x15 => if x15 < x14 then (if 0 ≤ x15 then (if x15 < (x13.length : Int) then (spec_voCount.l0 k x0 (wrap64 (x3 + (rd x13 x15))) x13 x14 (wrap64 (x15 + 1))) else (none)) else (none)) else (spec_voCount.l1 k x0 x3 1 1 2)
def spec_voCount.l1 : Nat → List Int → Int → Int → Int → Int → Option (Int)
  | 0, _, _, _, _, _ => none
  | k + 1, x0, x3, x6, x7, x8 => if x8 ≤ x3 then (spec_voCount.l1 k x0 x3 (wrap64 (x6 * x8)) x7 (wrap64 (x8 + 1))) else ((spec_voHooks.f k x0).bind fun t126 => (spec_voCount.l2 k x6 x7 t126 (t126.length : Int) 0))
def spec_voCount.l2 : Nat → Int → Int → List (List Int) → Int → Int → Option (Int)
  | 0, _, _, _, _, _ => none
  | k + 1, x6, x7, x32, x33, x34 => if x34 < x33 then (if 0 ≤ x34 then (if x34 < (x32.length : Int) then (spec_voCount.l3 k x6 x7 x32 x33 x34 (rd_L1 x32 x34) ((rd_L1 x32 x34).length : Int) 0) else (none)) else (none)) else (if x7 = 0 then (none) else (some (wrap64 (Int.tdiv x6 x7))))
def spec_voCount.l3 : Nat → Int → Int → List (List Int) → Int → Int → List Int → Int → Int → Option (Int)
  | 0, _, _, _, _, _, _, _, _ => none
  | k + 1, x6, x7, x32, x33, x34, x38, x39, x40 => if x40 < x39 then (if 0 ≤ x40 then (if x40 < (x38.length : Int) then (spec_voCount.l3 k x6 (wrap64 (x7 * (rd x38 x40))) x32 x33 x34 x38 x39 (wrap64 (x40 + 1))) else (none)) else (none)) else (spec_voCount.l2 k x6 x7 x32 x33 (wrap64 (x34 + 1)))
end
def spec_voCount.f (k : Nat) (l0 : List Int) : Option (Int) := spec_voCount.l0 k l0 0 l0 (l0.length : Int) 0
theorem spec_voCount.mono_l : ∀ k, (∀ y0 y1 y2 y3 y4, LeO (spec_voCount.l0 k y0 y1 y2 y3 y4) (spec_voCount.l0 (k + 1) y0 y1 y2 y3 y4)) ∧ (∀ y0 y1 y2 y3 y4, LeO (spec_voCount.l1 k y0 y1 y2 y3 y4) (spec_voCount.l1 (k + 1) y0 y1 y2 y3 y4)) ∧ (∀ y0 y1 y2 y3 y4, LeO (spec_voCount.l2 k y0 y1 y2 y3 y4) (spec_voCount.l2 (k + 1) y0 y1 y2 y3 y4)) ∧ (∀ y0 y1 y2 y3 y4 y5 y6 y7, LeO (spec_voCount.l3 k y0 y1 y2 y3 y4 y5 y6 y7) (spec_voCount.l3 (k + 1) y0 y1 y2 y3 y4 y5 y6 y7))
  | 0 => ⟨fun _ _ _ _ _ r h => by simp [spec_voCount.l0] at h, fun _ _ _ _ _ r h => by simp [spec_voCount.l1] at h, fun _ _ _ _ _ r h => by simp [spec_voCount.l2] at h, fun _ _ _ _ _ _ _ _ r h => by simp [spec_voCount.l3] at h⟩
  | k + 1 => by
    obtain ⟨ih0, ih1, ih2, ih3⟩ := spec_voCount.mono_l k
    refine ⟨?_, ?_, ?_, ?_⟩
    · intro y0 y1 y2 y3 y4
      unfold spec_voCount.l0
      repeat' first
      | (with_reducible exact ih0 _ _ _ _ _)
      | (with_reducible exact ih1 _ _ _ _ _)
      | (with_reducible exact ih2 _ _ _ _ _)
      | (with_reducible exact ih3 _ _ _ _ _ _ _ _)
      | (with_reducible exact spec_voHooks.mono _ _)
      | (with_reducible exact LeO.refl _)
      | (with_reducible exact LeO.none _)
      | (with_reducible refine LeO.ite ?_ ?_)
      | (with_reducible refine LeO.bind ?_ (fun _ => ?_))
      | exact ih0 _ _ _ _ _
      | exact ih1 _ _ _ _ _
      | exact ih2 _ _ _ _ _
      | exact ih3 _ _ _ _ _ _ _ _
      | exact spec_voHooks.mono _ _
      | exact LeO.none _
      | refine LeO.ite ?_ ?_
      | refine LeO.bind ?_ (fun _ => ?_)
    · intro y0 y1 y2 y3 y4
      unfold spec_voCount.l1
      repeat' first
      | (with_reducible exact ih0 _ _ _ _ _)
      | (with_reducible exact ih1 _ _ _ _ _)
      | (with_reducible exact ih2 _ _ _ _ _)
      | (with_reducible exact ih3 _ _ _ _ _ _ _ _)
      | (with_reducible exact spec_voHooks.mono _ _)
      | (with_reducible exact LeO.refl _)
      | (with_reducible exact LeO.none _)
      | (with_reducible refine LeO.ite ?_ ?_)
      | (with_reducible refine LeO.bind ?_ (fun _ => ?_))
      | exact ih0 _ _ _ _ _
      | exact ih1 _ _ _ _ _
      | exact ih2 _ _ _ _ _
      | exact ih3 _ _ _ _ _ _ _ _
      | exact spec_voHooks.mono _ _
      | exact LeO.none _
      | refine LeO.ite ?_ ?_
      | refine LeO.bind ?_ (fun _ => ?_)
    · intro y0 y1 y2 y3 y4
      unfold spec_voCount.l2
      repeat' first
      | (with_reducible exact ih0 _ _ _ _ _)
      | (with_reducible exact ih1 _ _ _ _ _)
      | (with_reducible exact ih2 _ _ _ _ _)
      | (with_reducible exact ih3 _ _ _ _ _ _ _ _)
      | (with_reducible exact spec_voHooks.mono _ _)
      | (with_reducible exact LeO.refl _)
      | (with_reducible exact LeO.none _)
      | (with_reducible refine LeO.ite ?_ ?_)
      | (with_reducible refine LeO.bind ?_ (fun _ => ?_))
      | exact ih0 _ _ _ _ _
      | exact ih1 _ _ _ _ _
      | exact ih2 _ _ _ _ _
      | exact ih3 _ _ _ _ _ _ _ _
      | exact spec_voHooks.mono _ _
      | exact LeO.none _
      | refine LeO.ite ?_ ?_
      | refine LeO.bind ?_ (fun _ => ?_)
    · intro y0 y1 y2 y3 y4 y5 y6 y7
      unfold spec_voCount.l3
      repeat' first
      | (with_reducible exact ih0 _ _ _ _ _)
      | (with_reducible exact ih1 _ _ _ _ _)
      | (with_reducible exact ih2 _ _ _ _ _)
      | (with_reducible exact ih3 _ _ _ _ _ _ _ _)
      | (with_reducible exact spec_voHooks.mono _ _)
      | (with_reducible exact LeO.refl _)
      | (with_reducible exact LeO.none _)
      | (with_reducible refine LeO.ite ?_ ?_)
      | (with_reducible refine LeO.bind ?_ (fun _ => ?_))
      | exact ih0 _ _ _ _ _
      | exact ih1 _ _ _ _ _
      | exact ih2 _ _ _ _ _
      | exact ih3 _ _ _ _ _ _ _ _
      | exact spec_voHooks.mono _ _
      | exact LeO.none _
      | refine LeO.ite ?_ ?_
      | refine LeO.bind ?_ (fun _ => ?_)
theorem spec_voCount.mono : ∀ a0 k, LeO (spec_voCount.f k a0) (spec_voCount.f (k + 1) a0) := by
  intro a0 k
  obtain ⟨ih0, ih1, ih2, ih3⟩ := spec_voCount.mono_l k
  unfold spec_voCount.f
  repeat' first
      | (with_reducible exact ih0 _ _ _ _ _)
      | (with_reducible exact ih1 _ _ _ _ _)
      | (with_reducible exact ih2 _ _ _ _ _)
      | (with_reducible exact ih3 _ _ _ _ _ _ _ _)
      | (with_reducible exact spec_voHooks.mono _ _)
      | (with_reducible exact LeO.refl _)
      | (with_reducible exact LeO.none _)
      | (with_reducible refine LeO.ite ?_ ?_)
      | (with_reducible refine LeO.bind ?_ (fun _ => ?_))
      | exact ih0 _ _ _ _ _
      | exact ih1 _ _ _ _ _
      | exact ih2 _ _ _ _ _
      | exact ih3 _ _ _ _ _ _ _ _
      | exact spec_voHooks.mono _ _
      | exact LeO.none _
      | refine LeO.ite ?_ ?_
      | refine LeO.bind ?_ (fun _ => ?_)
set_option maxHeartbeats 8000000 in
set_option maxRecDepth 100000 in
theorem spec_voCount.calls (k : Nat) (A0 : Option Addr) (c0 : Nat) (l0 : List Int) (r : Int) (w : World) (hr0 : Kd.C (Kd.int .i64) w A0 l0.length l0) (hc0 : l0.length ≤ c0) (h : spec_voCount.f k l0 = some r) :
    Calls Try.prog 37 #[.slice A0 l0.length c0] w fun e w' => e = .returned (.int .i64 r) ∧ Below w.heap.size w w' := by
  have HR0 := Aside0.mk hr0
  have HC0 := Aside0.mk hc0
  clear hr0 hc0
  have HB := Aside0.mk (Below.refl w.heap.size w)
  have H : (spec_voCount.l0 k l0 0 l0 (l0.length : Int) 0) = some r := h
  clear h
  have H' := Aside0.mk H
  clear H
  go_enter Try.func37, Try.ntmps37
  go_wp2
  go_loopg [3, 15] k (fun kq v3 v15 w' => ∃ (x3_1 : Int) (x15_1 : Int), v3 = .int .i64 x3_1 ∧ v15 = .int .i64 x15_1 ∧ Aside0 (spec_voCount.l0 kq l0 x3_1 l0 (l0.length : Int) x15_1 = some r) ∧ Aside0 (kq ≤ k) ∧ Aside0 (Below w.heap.size w w'))
  case atStart => exact ⟨(0), (0), (by first | rfl | (simp; done) | (simp [*]; done)), (by first | rfl | (simp; done) | (simp [*]; done)), H', ⟨Nat.le_refl _⟩, ⟨by repeat (first | (with_reducible first | exact HB.out | apply below_alloc | apply pw_below_drewN | apply below_drew1) | exact HB.out)⟩⟩
  case round =>
    clear H'
    obtain ⟨x3_1, x15_1, rfl, rfl, HA, HK1, HB⟩ := hrel
    cases gk with
    | zero => exact absurd HA.out (by simp [spec_voCount.l0])
    | succ k1 =>
      have H := HA.out
      clear HA
      simp only [spec_voCount.l0] at H
      by_cases c2 : x15_1 < (l0.length : Int)
      · rw [if_pos c2] at H
        have c2b0 : decide (x15_1 < (l0.length : Int)) = true := decide_eq_true c2
        clear c2
        by_cases c3 : 0 ≤ x15_1
        · rw [if_pos c3] at H
          have c3b0 : decide (0 ≤ x15_1) = true := decide_eq_true c3
          clear c3
          by_cases c4 : x15_1 < (l0.length : Int)
          · rw [if_pos c4] at H
            have c4b0 : decide (x15_1 < (l0.length : Int)) = true := decide_eq_true c4
            clear c4
            have H' := Aside0.mk H
            clear H
            have p125 : 0 ≤ (x15_1 : Int) := of_decide_eq_true (by first | (with_reducible assumption) | assumption)
            have q125 : x15_1 < (l0.length : Int) := of_decide_eq_true (by first | (with_reducible assumption) | assumption)
            obtain ⟨ad125, e125, hx125_0⟩ := Kd.at_int HR0.out x15_1 p125 q125
            cases e125
            (try replace hx125_0 := (HB.out.cell (World.block_lt_of_cell? w _ hx125_0)).trans hx125_0)
            replace p125 := eq_true p125
            replace q125 := eq_true q125
            go_wp2
            go_roundg k1
            case measure => have := HK1.out; omega
            case rel => exact ⟨(wrap64 (x3_1 + (rd l0 x15_1))), (wrap64 (x15_1 + 1)), (by first | rfl | (simp; done) | (simp [*]; done)), (by first | rfl | (simp; done) | (simp [*]; done)), H', ⟨by have := HK1.out; omega⟩, ⟨by repeat (first | (with_reducible first | exact HB.out | apply below_alloc | apply pw_below_drewN | apply below_drew1) | exact HB.out)⟩⟩
          · rw [if_neg c4] at H
            exact absurd H (by simp)
        · rw [if_neg c3] at H
          exact absurd H (by simp)
      · rw [if_neg c2] at H
        have c2b0 : decide (x15_1 < (l0.length : Int)) = false := decide_eq_false c2
        clear c2
        have H' := Aside0.mk H
        clear H
        go_wp2
        go_loopg [6, 8] k1 (fun kq v6 v8 w' => ∃ (x6_2 : Int) (x8_2 : Int), v6 = .int .i64 x6_2 ∧ v8 = .int .i64 x8_2 ∧ Aside0 (spec_voCount.l1 kq l0 x3_1 x6_2 1 x8_2 = some r) ∧ Aside0 (kq ≤ k1) ∧ Aside0 (Below w.heap.size w w'))
        case atStart => exact ⟨(1), (2), (by first | rfl | (simp; done) | (simp [*]; done)), (by first | rfl | (simp; done) | (simp [*]; done)), H', ⟨Nat.le_refl _⟩, ⟨by repeat (first | (with_reducible first | exact HB.out | apply below_alloc | apply pw_below_drewN | apply below_drew1) | exact HB.out)⟩⟩
        case round =>
          clear H'
          try clear p1
          try clear q1
          try clear hx1
          try clear c2
          try clear c2b0
          try clear p2
          try clear c3
          try clear c3b0
          try clear c4
          try clear c4b0
          try clear hx125_0
          try clear p125
          try clear q125
          obtain ⟨x6_2, x8_2, rfl, rfl, HA, HK2, HB⟩ := hrel
          cases gk with
          | zero => exact absurd HA.out (by simp [spec_voCount.l1])
          | succ k2 =>
            have H := HA.out
            clear HA
            simp only [spec_voCount.l1] at H
            by_cases c5 : x8_2 ≤ x3_1
            · rw [if_pos c5] at H
              have c5b0 : decide (x8_2 ≤ x3_1) = true := decide_eq_true c5
              clear c5
              have H' := Aside0.mk H
              clear H
              go_wp2
              go_roundg k2
              case measure => have := HK1.out; have := HK2.out; omega
              case rel => exact ⟨(wrap64 (x6_2 * x8_2)), (wrap64 (x8_2 + 1)), (by first | rfl | (simp; done) | (simp [*]; done)), (by first | rfl | (simp; done) | (simp [*]; done)), H', ⟨by have := HK1.out; have := HK2.out; omega⟩, ⟨by repeat (first | (with_reducible first | exact HB.out | apply below_alloc | apply pw_below_drewN | apply below_drew1) | exact HB.out)⟩⟩
            · rw [if_neg c5] at H
              have c5b0 : decide (x8_2 ≤ x3_1) = false := decide_eq_false c5
              clear c5
              replace H := Option.bind_eq_some_iff.mp H
              obtain ⟨t126, A60, H⟩ := H
              replace H : (spec_voCount.l2 k2 x6_2 1 t126 (t126.length : Int) 0) = some r := H
              have A6 := Aside0.mk A60
              clear A60
              have H' := Aside0.mk H
              clear H
              go_wp2_with (first | ((with_reducible refine gate_callee (f := 57) rfl ?_); refine goesL_ (some 32) rfl rfl Try.func57 (by kernel_rfl) rfl #[.slice A0 l0.length c0] rfl (by (try simp only [List.map_toArray, List.map_cons, List.map_nil]); first | done | rfl | (simp only [List.length_drop, List.length_take]; rfl)) ?_; (with_reducible refine (spec_voHooks.calls k2 _ _ l0 t126 _ ?side1 ?side2 A6.out).mono ?_); (case side1 => repeat (first | exact (Kd.C_below HR0.out HB.out) | (with_reducible refine Kd.C_alloc ?_ _) | (with_reducible refine Kd.C_drewN ?_ _) | (with_reducible refine Kd.C_drew ?_))); (case side2 => exact HC0.out); rintro e w7 ⟨v127, rfl, ho0, hb⟩; refine ⟨_, rfl, ?_⟩; have n0_ := Aside0.mk (Kd.S_lower ho0 (below_size (by repeat (first | (with_reducible first | exact HB.out | apply below_alloc | apply pw_below_drewN | apply below_drew1) | exact HB.out)))); have n1_ := Aside0.mk (below_step (by repeat (first | (with_reducible first | exact HB.out | apply below_alloc | apply pw_below_drewN | apply below_drew1) | exact HB.out)) hb); clear HB; have HO128 := n0_; have HB := n1_; clear n0_ n1_; (try clear hb); (try clear hb2); (try clear hk); (try clear hi); (try clear ho0); obtain ⟨Ao8, co8, eo8⟩ := Kd.S_slice HO128.out; subst eo8))
              go_loopg [7, 34] k2 (fun kq v7 v34 w' => ∃ (x7_3 : Int) (x34_3 : Int), v7 = .int .i64 x7_3 ∧ v34 = .int .i64 x34_3 ∧ Aside0 (spec_voCount.l2 kq x6_2 x7_3 t126 (t126.length : Int) x34_3 = some r) ∧ Aside0 (kq ≤ k2) ∧ Aside0 (Kd.S (Kd.slice 3 (Kd.int .i64)) 22 w' w.heap.size (fun _ => True) (.slice Ao8 t126.length co8) t126) ∧ Aside0 (Below w.heap.size w w'))
              case atStart => exact ⟨(1), (0), (by first | rfl | (simp; done) | (simp [*]; done)), (by first | rfl | (simp; done) | (simp [*]; done)), H', ⟨Nat.le_refl _⟩, ⟨by (with_reducible repeat (first | apply Kd.S_alloc | apply Kd.S_drewN | apply Kd.S_drew)); exact HO128.out⟩, ⟨by repeat (first | (with_reducible first | exact HB.out | apply below_alloc | apply pw_below_drewN | apply below_drew1) | exact HB.out)⟩⟩
              case round =>
                clear H'
                try clear p1
                try clear q1
                try clear hx1
                try clear c2
                try clear c2b0
                try clear p2
                try clear c3
                try clear c3b0
                try clear c4
                try clear c4b0
                try clear c5
                try clear c5b0
                try clear p6
                try clear hx125_0
                try clear p1
                try clear p125
                try clear p2
                try clear q1
                try clear q125
                obtain ⟨x7_3, x34_3, rfl, rfl, HA, HK3, HO_32, HB⟩ := hrel
                cases gk with
                | zero => exact absurd HA.out (by simp [spec_voCount.l2])
                | succ k3 =>
                  have H := HA.out
                  clear HA
                  simp only [spec_voCount.l2] at H
                  by_cases c9 : x34_3 < (t126.length : Int)
                  · rw [if_pos c9] at H
                    have c9b0 : decide (x34_3 < (t126.length : Int)) = true := decide_eq_true c9
                    clear c9
                    by_cases c10 : 0 ≤ x34_3
                    · rw [if_pos c10] at H
                      have c10b0 : decide (0 ≤ x34_3) = true := decide_eq_true c10
                      clear c10
                      by_cases c11 : x34_3 < (t126.length : Int)
                      · rw [if_pos c11] at H
                        have c11b0 : decide (x34_3 < (t126.length : Int)) = true := decide_eq_true c11
                        clear c11
                        have H' := Aside0.mk H
                        clear H
                        have p129 : 0 ≤ (x34_3 : Int) := of_decide_eq_true (by first | (with_reducible assumption) | assumption)
                        have q129 : x34_3 < (t126.length : Int) := of_decide_eq_true (by first | (with_reducible assumption) | assumption)
                        obtain ⟨ad129, A129_0, c129_0, e129, hx129_0, hl129_0, hi129_0⟩ := at_L1 (Kd.S_reads' HO_32.out).2.2 x34_3 p129 q129
                        cases e129
                        obtain ⟨ce129, hce129, hMe129, hcc129⟩ := Kd.S_get HO_32.out [] x34_3 p129 (by first | exact q129 | exact of_decide_eq_true (by first | (with_reducible assumption) | assumption) | (have e_ := (Kd.S_reads' HO_32.out).1; omega))
                        obtain ⟨ve129_0, rfl, ge129_0⟩ := hMe129
                        have hv129_0 := hcc129 0 _ rfl
                        rw [Nat.add_zero, show ((Kd.slice 3 (Kd.int .i64))).sz = 1 from rfl, Nat.mul_one] at hv129_0
                        replace hv129_0 := Option.some.inj (hv129_0.symm.trans hx129_0)
                        rw [hv129_0] at ge129_0
                        have HL129_0 := Aside0.mk (show Kd.R (Kd.int .i64) 3 _ _ _ _ (rd_L1 t126 x34_3) from ge129_0)
                        clear hv129_0 ge129_0
                        clear hcc129 hce129
                        have HR129_0 := Aside0.mk hi129_0
                        have HC129_0 := Aside0.mk hl129_0
                        clear hi129_0 hl129_0
                        replace p129 := eq_true p129
                        replace q129 := eq_true q129
                        go_wp2
                        go_loopg [7, 40] k3 (fun kq v7 v40 w' => ∃ (x7_4 : Int) (x40_4 : Int), v7 = .int .i64 x7_4 ∧ v40 = .int .i64 x40_4 ∧ Aside0 (spec_voCount.l3 kq x6_2 x7_4 t126 (t126.length : Int) x34_3 (rd_L1 t126 x34_3) ((rd_L1 t126 x34_3).length : Int) x40_4 = some r) ∧ Aside0 (kq ≤ k3) ∧ Aside0 (Kd.S (Kd.slice 3 (Kd.int .i64)) 22 w' w.heap.size (fun _ => True) (.slice (some ad129) t126.length co8) t126) ∧ Aside0 (Kd.C (Kd.int .i64) w' A129_0 (rd_L1 t126 x34_3).length (rd_L1 t126 x34_3)) ∧ Aside0 (Below w.heap.size w w'))
                        case atStart => exact ⟨(x7_3), (0), (by first | rfl | (simp; done) | (simp [*]; done)), (by first | rfl | (simp; done) | (simp [*]; done)), H', ⟨Nat.le_refl _⟩, ⟨by (with_reducible repeat (first | apply Kd.S_alloc | apply Kd.S_drewN | apply Kd.S_drew)); exact HO_32.out⟩, ⟨by repeat (first | (with_reducible exact HR129_0.out) | (with_reducible refine Kd.C_alloc ?_ _) | (with_reducible refine Kd.C_drewN ?_ _) | (with_reducible refine Kd.C_drew ?_) | exact HR129_0.out)⟩, ⟨by repeat (first | (with_reducible first | exact HB.out | apply below_alloc | apply pw_below_drewN | apply below_drew1) | exact HB.out)⟩⟩
                        case round =>
                          clear H'
                          try clear c1
                          try clear p1
                          try clear q1
                          try clear hx1
                          try clear c2
                          try clear c2b0
                          try clear p2
                          try clear c3
                          try clear c3b0
                          try clear c4
                          try clear c4b0
                          try clear c5
                          try clear c5b0
                          try clear p6
                          try clear c9
                          try clear c9b0
                          try clear c10
                          try clear c10b0
                          try clear c11
                          try clear c11b0
                          try clear hx125_0
                          try clear hx129_0
                          try clear p1
                          try clear p125
                          try clear p129
                          try clear p2
                          try clear p6
                          try clear q1
                          try clear q125
                          try clear q129
                          obtain ⟨x7_4, x40_4, rfl, rfl, HA, HK4, HO_32, HR129_0, HB⟩ := hrel
                          cases gk with
                          | zero => exact absurd HA.out (by simp [spec_voCount.l3])
                          | succ k4 =>
                            have H := HA.out
                            clear HA
                            simp only [spec_voCount.l3] at H
                            by_cases c12 : x40_4 < ((rd_L1 t126 x34_3).length : Int)
                            · rw [if_pos c12] at H
                              have c12b0 : decide (x40_4 < ((rd_L1 t126 x34_3).length : Int)) = true := decide_eq_true c12
                              clear c12
                              by_cases c13 : 0 ≤ x40_4
                              · rw [if_pos c13] at H
                                have c13b0 : decide (0 ≤ x40_4) = true := decide_eq_true c13
                                clear c13
                                by_cases c14 : x40_4 < ((rd_L1 t126 x34_3).length : Int)
                                · rw [if_pos c14] at H
                                  have c14b0 : decide (x40_4 < ((rd_L1 t126 x34_3).length : Int)) = true := decide_eq_true c14
                                  clear c14
                                  have H' := Aside0.mk H
                                  clear H
                                  have p130 : 0 ≤ (x40_4 : Int) := of_decide_eq_true (by first | (with_reducible assumption) | assumption)
                                  have q130 : x40_4 < ((rd_L1 t126 x34_3).length : Int) := of_decide_eq_true (by first | (with_reducible assumption) | assumption)
                                  obtain ⟨ad130, e130, hx130_0⟩ := Kd.at_int HR129_0.out x40_4 p130 q130
                                  cases e130
                                  (try replace hx130_0 := (HB.out.cell (World.block_lt_of_cell? w _ hx130_0)).trans hx130_0)
                                  replace p130 := eq_true p130
                                  replace q130 := eq_true q130
                                  go_wp2
                                  go_roundg k4
                                  case measure => have := HK1.out; have := HK2.out; have := HK3.out; have := HK4.out; omega
                                  case rel => exact ⟨(wrap64 (x7_4 * (rd (rd_L1 t126 x34_3) x40_4))), (wrap64 (x40_4 + 1)), (by first | rfl | (simp; done) | (simp [*]; done)), (by first | rfl | (simp; done) | (simp [*]; done)), H', ⟨by have := HK1.out; have := HK2.out; have := HK3.out; have := HK4.out; omega⟩, ⟨by (with_reducible repeat (first | apply Kd.S_alloc | apply Kd.S_drewN | apply Kd.S_drew)); exact HO_32.out⟩, ⟨by repeat (first | (with_reducible exact HR129_0.out) | (with_reducible refine Kd.C_alloc ?_ _) | (with_reducible refine Kd.C_drewN ?_ _) | (with_reducible refine Kd.C_drew ?_) | exact HR129_0.out)⟩, ⟨by repeat (first | (with_reducible first | exact HB.out | apply below_alloc | apply pw_below_drewN | apply below_drew1) | exact HB.out)⟩⟩
                                · rw [if_neg c14] at H
                                  exact absurd H (by simp)
                              · rw [if_neg c13] at H
                                exact absurd H (by simp)
                            · rw [if_neg c12] at H
                              have c12b0 : decide (x40_4 < ((rd_L1 t126 x34_3).length : Int)) = false := decide_eq_false c12
                              clear c12
                              have H' := Aside0.mk H
                              clear H
                              go_wp2
                              go_roundg k4
                              case measure => have := HK1.out; have := HK2.out; have := HK3.out; have := HK4.out; omega
                              case rel => exact ⟨(x7_4), (wrap64 (x34_3 + 1)), (by first | rfl | (simp; done) | (simp [*]; done)), (by first | rfl | (simp; done) | (simp [*]; done)), H', ⟨by have := HK1.out; have := HK2.out; have := HK3.out; have := HK4.out; omega⟩, ⟨by (with_reducible repeat (first | apply Kd.S_alloc | apply Kd.S_drewN | apply Kd.S_drew)); exact HO_32.out⟩, ⟨by repeat (first | (with_reducible first | exact HB.out | apply below_alloc | apply pw_below_drewN | apply below_drew1) | exact HB.out)⟩⟩
                      · rw [if_neg c11] at H
                        exact absurd H (by simp)
                    · rw [if_neg c10] at H
                      exact absurd H (by simp)
                  · rw [if_neg c9] at H
                    have c9b0 : decide (x34_3 < (t126.length : Int)) = false := decide_eq_false c9
                    clear c9
                    by_cases c15 : x7_3 = 0
                    · rw [if_pos c15] at H
                      exact absurd H (by simp)
                    · rw [if_neg c15] at H
                      have c15b0 : (x7_3 == 0) = false := beq_eq_false_iff_ne.mpr c15
                      have c15b1 : (x7_3 != 0) = true := bne_iff_ne.mpr c15
                      obtain rfl := Option.some.inj H
                      go_wp2
                      go_ret
                      exact ⟨by first | rfl | (simp [errW_none, errW_some] <;> rfl) | (simp [*, errW_none, errW_some] <;> rfl), by repeat (first | (with_reducible first | exact HB.out | apply below_alloc | apply pw_below_drewN | apply below_drew1) | exact HB.out)⟩

/-! ### spec_l1Own: function 40 -/
def spec_l1Own.f (l0 : List Int) : Option (List Int) := (some (([] : List Int) : List Int)).bind fun y131 => (if y131.length + l0.length < 17592186044416 then (some (y131 ++ l0)) else (none))
set_option maxHeartbeats 8000000 in
set_option maxRecDepth 100000 in
theorem spec_l1Own.calls (A0 : Option Addr) (c0 : Nat) (l0 : List Int) (r : List Int) (w : World) (hr0 : Kd.C (Kd.int .i64) w A0 l0.length l0) (hc0 : l0.length ≤ c0) (h : spec_l1Own.f l0 = some r) :
    Calls Try.prog 40 #[.slice A0 l0.length c0] w fun e w' => ∃ v0_ : Value, e = .returned (v0_) ∧ Kd.R (Kd.int .i64) 3 w' w.heap.size (fun _ => True) v0_ r ∧ Below w.heap.size w w' := by
  have HR0 := Aside0.mk hr0
  have HC0 := Aside0.mk hc0
  clear hr0 hc0
  have HB := Aside0.mk (Below.refl w.heap.size w)
  have H : ((some (([] : List Int) : List Int)).bind fun y131 => (if y131.length + l0.length < 17592186044416 then (some (y131 ++ l0)) else (none))) = some r := h
  clear h
  obtain ⟨y131, hy131⟩ : ∃ y_ : List Int, y_ = (([] : List Int)) := ⟨_, rfl⟩
  replace H : (if y131.length + l0.length < 17592186044416 then (some (y131 ++ l0)) else (none)) = some r := by first | (rw [hy131]; with_reducible exact H) | (have H2_ := (Option.bind_some _ _).symm.trans H; rw [hy131]; with_reducible exact H2_) | (have H2_ := (Option.bind_some _ _).symm.trans H; with_reducible exact H2_) | with_reducible exact H | (rw [hy131]; exact H) | exact H
  have Ny131 := Aside0.mk hy131
  clear hy131
  by_cases c2 : y131.length + l0.length < 17592186044416
  · rw [if_pos c2] at H
    have LMc2 := Aside0.mk c2
    clear c2
    obtain ⟨y134, hy134⟩ : ∃ y_ : List Int, y_ = (y131 ++ l0) := ⟨_, rfl⟩
    replace H : (some y134) = some r := by first | (rw [hy134]; with_reducible exact H) | (have H2_ := (Option.bind_some _ _).symm.trans H; rw [hy134]; with_reducible exact H2_) | (have H2_ := (Option.bind_some _ _).symm.trans H; with_reducible exact H2_) | with_reducible exact H | (rw [hy134]; exact H) | exact H
    have Ny134 := Aside0.mk hy134
    clear hy134
    obtain rfl := Option.some.inj H
    go_enter Try.func40, Try.ntmps40
    go_wp2_with (first | ((with_reducible refine gate_dst (N := 3) rfl ?_); refine Kd.R_lit (Kd.int .i64) _ 3 ?hg (N := 3) ?hd (xs := ([] : List Int)) (inner := []) (ok := fun _ => True) (okp := fun _ => True) ?hr ?hp (fun _ hk => hk) trivial (Below.refl _ _) (Nat.le_refl _) (by simp) ?_; (case hd => rfl); (case hg => rfl); (case hr => first | (go_simp; done) | (go_simp; rfl)); (case hp => exact (Reps.none _ _)); intro v132 w3 ho4 hb hg_ hnew_; clear hg_ hnew_; (first | rw [← Ny131.out] at ho4 | (simp only [Int.reduceToNat] at ho4; rw [← Ny131.out] at ho4)); have n0_ := Aside0.mk (Kd.R_lower ho4 (below_size (by repeat (first | (with_reducible first | exact HB.out | apply below_alloc | apply pw_below_drewN | apply below_drew1) | exact HB.out)))); have n1_ := Aside0.mk (below_step (by repeat (first | (with_reducible first | exact HB.out | apply below_alloc | apply pw_below_drewN | apply below_drew1) | exact HB.out)) hb); clear HB; have HO133 := n0_; have HB := n1_; clear n0_ n1_; clear hb ho4) | ((with_reducible refine gate_builtin (b := .append) (xs := #[.tmp 3, .tmp 4]) rfl ?_); at_builtin; refine Kd.R_append_rows (Kd.int .i64) (w0 := w) w.heap.size rfl (.tmp 3) (.tmp 4) 22 3 (.int .i64 0) 8 rfl Try.underlying22 info3 rfl (by decide) (by omega) v132 y131 l0 _ _ _ (fun _ => True) (fun _ => False) rfl rfl ?aO ?aR (fun _ _ h => h) (fun _ h => h.elim) ?aF ?aB ?aS ?aL ?_; (case aR => repeat (first | exact (Kd.C_below HR0.out HB.out) | (with_reducible refine Kd.C_alloc ?_ _) | (with_reducible refine Kd.C_drewN ?_ _) | (with_reducible refine Kd.C_drew ?_))); (case aB => exact (by repeat (first | (with_reducible first | exact HB.out | apply below_alloc | apply pw_below_drewN | apply below_drew1) | exact HB.out))); (case aF => exact (fun _ _ => trivial)); (case aO => exact (by (with_reducible repeat (first | apply Kd.R_alloc | apply Kd.R_drewN | apply Kd.R_drew)); exact HO133.out)); (case aS => exact (below_size (by repeat (first | (with_reducible first | exact HB.out | apply below_alloc | apply pw_below_drewN | apply below_drew1) | exact HB.out)))); (case aL => have := LMc2.out; omega); intro v135 w5 ho hb hg hat; rw [← Ny134.out] at ho; have n0_ := Aside0.mk (hb); have n1_ := Aside0.mk (ho); clear HB; clear HO133; have HB := n0_; have HO136 := n1_; clear n0_ n1_; clear ho hb hg hat))
    go_ret
    exact ⟨_, by first | rfl | (simp [errW_none, errW_some] <;> rfl) | (simp [*, errW_none, errW_some] <;> rfl), by (with_reducible repeat (first | apply Kd.R_alloc | apply Kd.R_drewN | apply Kd.R_drew)); exact HO136.out, by repeat (first | (with_reducible first | exact HB.out | apply below_alloc | apply pw_below_drewN | apply below_drew1) | exact HB.out)⟩
  · rw [if_neg c2] at H
    exact absurd H (by simp)

/-! ### spec_voLook: function 44 -/
mutual
def spec_voLook.f : Nat → ByteArray → List Int → List Int → Option (List ByteArray)
  | 0, _, _, _ => none
  | k + 1, b, c, r => spec_voLook.l0 k b c r 0 true []
def spec_voLook.l0 : Nat → ByteArray → List Int → List Int → Int → Bool → List ByteArray → Option (List ByteArray)
  | 0, _, _, _, _, _, _ => none
  | k + 1, b, c, r, i, done, acc => if i < (r.length : Int) then (if 0 ≤ i then (if i < (c.length : Int) then (if rd c i = rd r i then spec_voLook.l0 k b c r (wrap64 (i + 1)) done acc else (if i > 0 then (if 0 ≤ wrap64 (i - 1) then (if wrap64 (i - 1) < (c.length : Int) then (if rd c (wrap64 (i - 1)) = rd c i then spec_voLook.l0 k b c r (wrap64 (i + 1)) false acc else spec_voLook.j1 k b c r i acc) else none) else none) else spec_voLook.j1 k b c r i acc)) else none) else none) else (if done = true then some (acc ++ [b]) else some acc)
def spec_voLook.j1 : Nat → ByteArray → List Int → List Int → Int → List ByteArray → Option (List ByteArray)
  | 0, _, _, _, _, _ => none
  | k + 1, b, c, r, i, acc => (spec_l1Own.f c).bind fun nx => (if i < (nx.length : Int) then (if i ≤ wrap64 (i + 1) then (if wrap64 (i + 1) ≤ 4 then (if b.size + ((⟨#[97, 98, 99, 100]⟩ : ByteArray).extract i.toNat (wrap64 (i + 1)).toNat).size ≤ 9223372036854775807 then ((spec_voLook.f k (b ++ ((⟨#[97, 98, 99, 100]⟩ : ByteArray).extract i.toNat (wrap64 (i + 1)).toNat)) (nx.set i.toNat (wrap64 (rd nx i + 1))) r).bind fun L => spec_voLook.l0 k b c r (wrap64 (i + 1)) false (acc ++ L)) else none) else none) else none) else none)
end
theorem spec_voLook.len : ∀ k, (∀ b c r L, spec_voLook.f k b c r = some L → True) ∧ (∀ b c r i done acc L, spec_voLook.l0 k b c r i done acc = some L → acc.length ≤ L.length) ∧ (∀ b c r i acc L, spec_voLook.j1 k b c r i acc = some L → acc.length ≤ L.length)
  | 0 => ⟨fun _ _ _ _ _ => trivial, fun _ _ _ _ _ _ _ h => by simp [spec_voLook.l0] at h, fun _ _ _ _ _ _ h => by simp [spec_voLook.j1] at h⟩
  | k + 1 => by
    obtain ⟨_, h1, h2⟩ := spec_voLook.len k
    refine ⟨fun _ _ _ _ _ => trivial, fun b c r i done acc L h => ?_, fun b c r i acc L h => ?_⟩
    · rw [spec_voLook.l0] at h
      split at h
      · split at h
        · split at h
          · split at h
            · exact h1 _ _ _ _ _ _ _ h
            · split at h
              · split at h
                · split at h
                  · split at h
                    · exact h1 _ _ _ _ _ _ _ h
                    · exact h2 _ _ _ _ _ _ h
                  · cases h
                · cases h
              · exact h2 _ _ _ _ _ _ h
          · cases h
        · cases h
      · split at h
        · obtain rfl := Option.some.inj h
          simp
        · obtain rfl := Option.some.inj h
          exact Nat.le_refl _
    · rw [spec_voLook.j1] at h
      obtain ⟨nx, _, h⟩ := Option.bind_eq_some_iff.mp h
      split at h
      · split at h
        · split at h
          · split at h
            · obtain ⟨L1, _, h⟩ := Option.bind_eq_some_iff.mp h
              have := h1 _ _ _ _ _ _ _ h
              rw [List.length_append] at this
              omega
            · cases h
          · cases h
        · cases h
      · cases h
theorem spec_voLook.mono_l : ∀ k, (∀ b c r, LeO (spec_voLook.f k b c r) (spec_voLook.f (k + 1) b c r)) ∧ (∀ b c r i done acc, LeO (spec_voLook.l0 k b c r i done acc) (spec_voLook.l0 (k + 1) b c r i done acc)) ∧ (∀ b c r i acc, LeO (spec_voLook.j1 k b c r i acc) (spec_voLook.j1 (k + 1) b c r i acc))
  | 0 => ⟨fun _ _ _ r h => by simp [spec_voLook.f] at h, fun _ _ _ _ _ _ r h => by simp [spec_voLook.l0] at h, fun _ _ _ _ _ r h => by simp [spec_voLook.j1] at h⟩
  | k + 1 => by
    obtain ⟨h0, h1, h2⟩ := spec_voLook.mono_l k
    refine ⟨fun b c r => ?_, fun b c r i done acc => ?_, fun b c r i acc => ?_⟩
    · exact h1 _ _ _ _ _ _
    · rw [spec_voLook.l0, spec_voLook.l0]
      exact LeO.ite (LeO.ite (LeO.ite (LeO.ite (h1 _ _ _ _ _ _) (LeO.ite (LeO.ite (LeO.ite (LeO.ite (h1 _ _ _ _ _ _) (h2 _ _ _ _ _)) (LeO.refl _)) (LeO.refl _)) (h2 _ _ _ _ _))) (LeO.refl _)) (LeO.refl _)) (LeO.refl _)
    · rw [spec_voLook.j1, spec_voLook.j1]
      exact LeO.bind (LeO.refl _) fun _ => LeO.ite (LeO.ite (LeO.ite (LeO.ite (LeO.bind (h0 _ _ _) fun _ => h1 _ _ _ _ _ _) (LeO.refl _)) (LeO.refl _)) (LeO.refl _)) (LeO.refl _)
theorem spec_voLook.mono : ∀ b c r k, LeO (spec_voLook.f k b c r) (spec_voLook.f (k + 1) b c r) := fun b c r k => (spec_voLook.mono_l k).1 b c r
theorem spec_voLook.infoS : (Try.prog.info? 9).map (fun i => (i.zero, i.size, i.bytes)) = some (some (.string ⟨#[]⟩), 1, 16) := by kernel_rfl
set_option maxHeartbeats 4000000 in
set_option maxRecDepth 100000 in
theorem spec_voLook.calls : ∀ (k : Nat) (b : ByteArray) (c r : List Int) (R xs : List ByteArray) (A1 A2 : Option Addr) (c1 c2 bo base : Nat) (ok S : Nat → Prop) (v : Value) (w : World) (_ : S bo) (_ : ∀ j, some j = v.ownBlock → S j)
    (_ : ∀ W', Kept w W' S → (Kd.int .i64).C W' A1 c.length c) (_ : c.length ≤ c1) (_ : ∀ W', Kept w W' S → (Kd.int .i64).C W' A2 r.length r) (_ : r.length ≤ c2) (_ : w.heap[bo]? = some (.cells #[v] 32 (0, 0))) (_ : Kd.R Kd.string 9 w base ok v xs) (_ : ¬ ok bo) (_ : base ≤ bo) (_ : base ≤ w.heap.size) (_ : ∀ j, w.heap.size ≤ j → ok j)
    (_ : xs.length + R.length ≤ 1000000) (_ : spec_voLook.f k b c r = some R),
    Calls Try.prog 44 #[.string b, .slice A1 c.length c1, .slice A2 r.length c2, .pointer (some ⟨bo, 0, none⟩)] w fun e w' => e = .returned (.tuple #[]) ∧ ∃ v', w'.heap[bo]? = some (.cells #[v'] 32 (0, 0)) ∧ Kd.R Kd.string 9 w' base ok v' (xs ++ R) ∧ Kept w w' S ∧ (∀ j, some j = v'.ownBlock → S j ∨ w.heap.size ≤ j) ∧ Below base w w' := by
  intro k
  induction k using Nat.strongRecOn with
  | _ k IH =>
    intro b c r R xs A1 A2 c1 c2 bo base ok S v w hSb hSv hC h1 hR h2 hbo HO hok hbb hbase hfr hN h
    cases k with
    | zero => simp [spec_voLook.f] at h
    | succ k =>
      have HH : Aside0 (spec_voLook.l0 k b c r 0 true [] = some R) := ⟨h⟩
      have HC := Aside0.mk hC
      have HR := Aside0.mk hR
      have HO0 := Aside0.mk (show Kd.R Kd.string 9 w base ok v (xs ++ []) by rw [List.append_nil]; exact HO)
      have HB0 := Aside0.mk hbo
      have HFR := Aside0.mk hfr
      have HIH := Aside0.mk IH
      have HSV := Aside0.mk hSv
      have HSB := Aside0.mk hSb
      have HOK := Aside0.mk hok
      clear hC hR HO hbo hfr IH h hSv hSb hok
      go_enter Try.func44, Try.ntmps44
      go_wp2
      go_loopg [8, 13] k (fun kq v8 v13 w' => ∃ (done : Bool) (i : Int) (acc : List ByteArray) (vc : Value), v8 = .bool done ∧ v13 = .int .i64 i ∧ Aside0 (spec_voLook.l0 kq b c r i done acc = some R) ∧ Aside0 (kq ≤ k) ∧ Aside0 (w'.heap[bo]? = some (.cells #[vc] 32 (0, 0))) ∧ Aside0 (Kd.R Kd.string 9 w' base ok vc (xs ++ acc)) ∧ Aside0 (Kept w w' S) ∧ Aside0 (∀ j, some j = vc.ownBlock → S j ∨ w.heap.size ≤ j) ∧ Aside0 (Below base w w'))
      case atStart => exact ⟨true, 0, [], v, rfl, rfl, HH, ⟨Nat.le_refl _⟩, HB0, HO0, ⟨Kept.refl _ _⟩, ⟨fun j hj => .inl (HSV.out j hj)⟩, ⟨Below.refl _ _⟩⟩
      case round =>
        clear HH HO0 HB0
        obtain ⟨done, i, acc, vc, rfl, rfl, HA, HK, HBO, HO, HKP, HVC, HBB⟩ := hrel
        cases gk with
        | zero => exact absurd HA.out (by simp [spec_voLook.l0])
        | succ k1 =>
          have H := HA.out
          clear HA
          rw [spec_voLook.l0] at H
          by_cases q0 : i < (r.length : Int)
          · rw [if_pos q0] at H
            by_cases q1 : 0 ≤ i
            · rw [if_pos q1] at H
              by_cases q2 : i < (c.length : Int)
              · rw [if_pos q2] at H
                have HCw := Aside0.mk (HC.out wr HKP.out)
                have HRw := Aside0.mk (HR.out wr HKP.out)
                obtain ⟨ad1, e1, x1⟩ := Kd.at_int HCw.out i q1 q2
                cases e1
                obtain ⟨ad2, e2, x2⟩ := Kd.at_int HRw.out i q1 q0
                cases e2
                have q0b : decide (i < (r.length : Int)) = true := decide_eq_true q0
                have p11 : (0 ≤ i) = True := eq_true q1
                have p12 : (i < (c.length : Int)) = True := eq_true q2
                have p13 : (i < (r.length : Int)) = True := eq_true q0
                by_cases q3 : rd c i = rd r i
                · rw [if_pos q3] at H
                  have q3b : (rd c i == rd r i) = true := beq_iff_eq.mpr q3
                  have HH := Aside0.mk H
                  clear H q3 q0 q1 q2
                  go_upto_region 4 with (fail)
                  go_quiet (fail)
                  go_wp2
                  go_roundg k1
                  case measure => omega
                  case rel => exact ⟨done, wrap64 (i + 1), acc, vc, rfl, rfl, HH, ⟨by have := HK.out; omega⟩, HBO, ⟨Kd.R_drewN HO.out _⟩, ⟨HKP.out.drewN _⟩, HVC, ⟨pw_below_drewN HBB.out _⟩⟩
                · rw [if_neg q3] at H
                  have q3b : (rd c i == rd r i) = false := beq_eq_false_iff_ne.mpr q3
                  clear q3
                  by_cases q4 : i > 0
                  · rw [if_pos q4] at H
                    by_cases qa : 0 ≤ wrap64 (i - 1)
                    · rw [if_pos qa] at H
                      by_cases qb : wrap64 (i - 1) < (c.length : Int)
                      · rw [if_pos qb] at H
                        obtain ⟨ad3, e3, x3⟩ := Kd.at_int HCw.out _ qa qb
                        cases e3
                        have q4b : decide (i > 0) = true := decide_eq_true q4
                        have q4c : decide (0 < i) = true := decide_eq_true q4
                        have pa := eq_true qa
                        have pb := eq_true qb
                        by_cases qc : rd c (wrap64 (i - 1)) = rd c i
                        · rw [if_pos qc] at H
                          have qcb : (rd c (wrap64 (i - 1)) == rd c i) = true := beq_iff_eq.mpr qc
                          have HH := Aside0.mk H
                          clear H q0 q1 q2 q4 qa qb qc
                          go_upto_region 4 with (fail)
                          go_quiet (fail)
                          go_upto_region 6 with (fail)
                          go_quiet (fail)
                          go_wp2
                          go_roundg k1
                          case measure => omega
                          case rel => exact ⟨false, wrap64 (i + 1), acc, vc, rfl, rfl, HH, ⟨by have := HK.out; omega⟩, HBO, ⟨Kd.R_drewN HO.out _⟩, ⟨HKP.out.drewN _⟩, HVC, ⟨pw_below_drewN HBB.out _⟩⟩
                        · rw [if_neg qc] at H
                          have qcb : (rd c (wrap64 (i - 1)) == rd c i) = false := beq_eq_false_iff_ne.mpr qc
                          clear q4 qa qb qc
                          go_upto_region 4 with (fail)
                          go_quiet (fail)
                          go_upto_region 6 with (fail)
                          go_quiet (fail)
                          clear x3
                          -- the vote is given
                          obtain ⟨k2, rfl⟩ : ∃ m, k1 = m + 1 := by cases k1 with | zero => simp [spec_voLook.j1] at H | succ m => exact ⟨m, rfl⟩
                          rw [spec_voLook.j1] at H
                          obtain ⟨nx, An, H⟩ := Option.bind_eq_some_iff.mp H
                          have HAN := Aside0.mk An
                          clear An
                          by_cases q5 : i < (nx.length : Int)
                          · rw [if_pos q5] at H
                            by_cases q6 : i ≤ wrap64 (i + 1)
                            · rw [if_pos q6] at H
                              by_cases q7 : wrap64 (i + 1) ≤ 4
                              · rw [if_pos q7] at H
                                by_cases q8 : b.size + ((⟨#[97, 98, 99, 100]⟩ : ByteArray).extract i.toNat (wrap64 (i + 1)).toNat).size ≤ 9223372036854775807
                                · rw [if_pos q8] at H
                                  obtain ⟨R1, hR1, H⟩ := Option.bind_eq_some_iff.mp H
                                  have HR1 := Aside0.mk hR1
                                  have HLEN := Aside0.mk (show xs.length + (acc.length + R1.length) ≤ 1000000 by have := (spec_voLook.len _).2.1 _ _ _ _ _ _ _ H; rw [List.length_append] at this; omega)
                                  have HH := Aside0.mk H
                                  clear H hR1
                                  have p14 : (i < (nx.length : Int)) = True := eq_true q5
                                  have q6b := eq_true q6
                                  have q6c : decide (i ≤ wrap64 (i + 1)) = true := decide_eq_true q6
                                  have q7b := eq_true q7
                                  have q7c : decide (wrap64 (i + 1) ≤ 4) = true := decide_eq_true q7
                                  have q8b := eq_true q8
                                  have q8c : decide (b.size + ((⟨#[97, 98, 99, 100]⟩ : ByteArray).extract i.toNat (wrap64 (i + 1)).toNat).size ≤ 9223372036854775807) = true := decide_eq_true q8
                                  try have q8d : (9223372036854775807 < b.size + ((⟨#[97, 98, 99, 100]⟩ : ByteArray).extract i.toNat (wrap64 (i + 1)).toNat).size) = False := eq_false (Nat.not_lt.2 q8)
                                  have q8e : (9223372036854775807 < b.size + ((wrap64 (i + 1)).toNat - i.toNat)) = False := eq_false (by have q8s := q8; rw [ByteArray.size_extract, show (⟨#[97, 98, 99, 100]⟩ : ByteArray).size = 4 from rfl] at q8s; omega)
                                  have HQ5 := Aside0.mk q5
                                  have HQ1 := Aside0.mk q1
                                  clear q5 q6 q7 q8 q0 q1 q2 x1 x2
                                  go_upto_region 9 with (first | (go_at_call 40; refine (spec_l1Own.calls _ _ c nx _ ?side1 h1 HAN.out).mono ?_; (case side1 => exact HC.out _ (by first | exact HKP.out | exact HKP.out.drewN _ | exact (HKP.out.drewN _).drewN _)); rintro e w5 ⟨v5, rfl, ho5, hb5⟩; obtain ⟨gn, cn, rfl, gb, gl, gc⟩ := Kd.R_form ho5 (by have h_ := HQ5.out; have h1_ := HQ1.out; omega); have HO5 := Aside0.mk ho5; have HB5 := Aside0.mk hb5; have HGB := Aside0.mk gb; obtain ⟨y5, f5⟩ := Kd.R_celln 0 ho5 i HQ1.out HQ5.out; have HP5 := Aside0.mk (Kd.R_putg ho5 i (wrap64 (rd nx i + 1))); clear ho5 hb5 gb gl gc) | ((with_reducible refine gate_store (t := 3) (p := 46) rfl ?_); refine store_event (t := 3) (p := 46) (v := ?vo) (w1 := (w5.setCell ⟨gn, i.toNat, none⟩ (.int .i64 (wrap64 (rd nx i + 1))))) ?hg ?ho ?hn ?hr ?_; (case ho => rfl); (case hg => rfl); (case hn => rfl); (case hr => first | (go_simp; done) | (go_simp; rfl)); intro w6 hw; have HO6 := Aside0.mk (show Kd.R (Kd.int .i64) 3 w6 _ (fun _ => True) (.slice (some ⟨gn, 0, none⟩) nx.length cn) (nx.set i.toNat (wrap64 (rd nx i + 1))) from hw ▸ HP5.out.1); have HG6 := Aside0.mk (show w5.grownBy w6 (some gn) from hw ▸ HP5.out.2); clear hw y5 f5))
                                  have HBW := Aside0.mk (show Below wr.heap.size wr w6 from below_step (show Below wr.heap.size wr _ from (by repeat (first | exact Below.refl _ _ | refine pw_below_drewN ?_ _))) (HB5.out.grown HG6.out HB5.out.size (fun j e => by injection e with e; subst e; exact HGB.out)))
                                  have HKP6 := Aside0.mk (HKP.out.below HBW.out)
                                  have HBO6 := Aside0.mk (blk_below HBO.out HBW.out)
                                  have HO7 := Aside0.mk (Kd.R_below HO.out HBW.out)
                                  have HVL := Aside0.mk (Kd.R_lt HO.out)
                                  have HBL := Aside0.mk (blk_lt HBO.out)
                                  have HWS := Aside0.mk HBW.out.size
                                  have HWW := Aside0.mk HKP.out.1
                                  obtain ⟨ny, hny⟩ : ∃ ny, ny = nx.set i.toNat (wrap64 (rd nx i + 1)) := ⟨_, rfl⟩
                                  have hln : nx.length = ny.length := by rw [hny, List.length_set]
                                  have HO8 := HO6.out
                                  rw [← hny, hln] at HO8
                                  have HO9 := Aside0.mk (Kd.R_mono (ok' := fun j => wr.heap.size ≤ j) (Kd.R_bound HO8) (fun j hj => hj.2.1))
                                  rw [← hny] at HR1
                                  rw [hln]
                                  clear HO8 HO6 HO5 HB5 HG6 HP5 HGB hny hln p14 HQ5 HAN
                                  go_wp2_with (first | (go_at_call 44; refine (HIH.out k2 (by have := HK.out; omega) _ ny r R1 (xs ++ acc) (some ⟨gn, 0, none⟩) _ cn c2 bo base ok (fun j => j = bo ∨ some j = vc.ownBlock) vc _ (.inl rfl) (fun j hj => .inr hj) ?sC ?sc ?sR h2 HBO6.out HO7.out HOK.out hbb ?sb ?sf ?sN HR1.out).mono ?_; (case sC => exact Kd.C_kept_own HO9.out (fun j hj hs => by rcases hs with hs | hs; (have h_ := HBL.out; omega); (have h_ := HVL.out j hs.symm; omega))); (case sc => exact (Kd.R_reads' HO9.out).2.1); (case sR => exact fun W' hk => HR.out W' (HKP6.out.then_ hk (fun j hj => by rcases hj with hj | hj; (exact .inl (hj ▸ HSB.out)); (exact HVC.out j hj)))); (case sb => have h_ := HWS.out; have h1_ := HWW.out; omega); (case sf => exact fun j hj => HFR.out j (by have h_ := HWS.out; have h1_ := HWW.out; omega)); (case sN => have h_ := HLEN.out; rw [List.length_append]; omega); rintro e w7 ⟨rfl, v7, hbo7, ho7, hk7, hv7, hb7⟩; have HBO7 := Aside0.mk hbo7; have HO70 := Aside0.mk ho7; have HK7 := Aside0.mk hk7; have HV7 := Aside0.mk hv7; have HB7 := Aside0.mk hb7; clear hbo7 ho7 hk7 hv7 hb7))
                                  go_roundg k2
                                  case measure => omega
                                  case rel => exact ⟨false, wrap64 (i + 1), acc ++ R1, v7, rfl, rfl, HH, ⟨by have := HK.out; omega⟩, HBO7, ⟨by rw [← List.append_assoc]; exact HO70.out⟩, ⟨HKP6.out.then_ HK7.out (fun j hj => by rcases hj with hj | hj; (exact .inl (hj ▸ HSB.out)); (exact HVC.out j hj))⟩, ⟨fun j hj => by rcases HV7.out j hj with (h | h) | h; (exact .inl (h ▸ HSB.out)); (exact HVC.out j h); (exact .inr (by have h_ := HWS.out; have h1_ := HWW.out; omega))⟩, ⟨(HBB.out.trans (HBW.out.mono (Nat.le_trans hbase HKP.out.1))).trans HB7.out⟩⟩
                                · rw [if_neg q8] at H
                                  cases H
                              · rw [if_neg q7] at H
                                cases H
                            · rw [if_neg q6] at H
                              cases H
                          · rw [if_neg q5] at H
                            cases H
                      · rw [if_neg qb] at H
                        cases H
                    · rw [if_neg qa] at H
                      cases H
                  · rw [if_neg q4] at H
                    have q4b : decide (i > 0) = false := decide_eq_false q4
                    have q4c : decide (0 < i) = false := decide_eq_false q4
                    clear q4
                    go_upto_region 4 with (fail)
                    go_quiet (fail)
                    go_upto_region 6 with (fail)
                    go_quiet (fail)
                    -- the vote is given
                    obtain ⟨k2, rfl⟩ : ∃ m, k1 = m + 1 := by cases k1 with | zero => simp [spec_voLook.j1] at H | succ m => exact ⟨m, rfl⟩
                    rw [spec_voLook.j1] at H
                    obtain ⟨nx, An, H⟩ := Option.bind_eq_some_iff.mp H
                    have HAN := Aside0.mk An
                    clear An
                    by_cases q5 : i < (nx.length : Int)
                    · rw [if_pos q5] at H
                      by_cases q6 : i ≤ wrap64 (i + 1)
                      · rw [if_pos q6] at H
                        by_cases q7 : wrap64 (i + 1) ≤ 4
                        · rw [if_pos q7] at H
                          by_cases q8 : b.size + ((⟨#[97, 98, 99, 100]⟩ : ByteArray).extract i.toNat (wrap64 (i + 1)).toNat).size ≤ 9223372036854775807
                          · rw [if_pos q8] at H
                            obtain ⟨R1, hR1, H⟩ := Option.bind_eq_some_iff.mp H
                            have HR1 := Aside0.mk hR1
                            have HLEN := Aside0.mk (show xs.length + (acc.length + R1.length) ≤ 1000000 by have := (spec_voLook.len _).2.1 _ _ _ _ _ _ _ H; rw [List.length_append] at this; omega)
                            have HH := Aside0.mk H
                            clear H hR1
                            have p14 : (i < (nx.length : Int)) = True := eq_true q5
                            have q6b := eq_true q6
                            have q6c : decide (i ≤ wrap64 (i + 1)) = true := decide_eq_true q6
                            have q7b := eq_true q7
                            have q7c : decide (wrap64 (i + 1) ≤ 4) = true := decide_eq_true q7
                            have q8b := eq_true q8
                            have q8c : decide (b.size + ((⟨#[97, 98, 99, 100]⟩ : ByteArray).extract i.toNat (wrap64 (i + 1)).toNat).size ≤ 9223372036854775807) = true := decide_eq_true q8
                            try have q8d : (9223372036854775807 < b.size + ((⟨#[97, 98, 99, 100]⟩ : ByteArray).extract i.toNat (wrap64 (i + 1)).toNat).size) = False := eq_false (Nat.not_lt.2 q8)
                            have q8e : (9223372036854775807 < b.size + ((wrap64 (i + 1)).toNat - i.toNat)) = False := eq_false (by have q8s := q8; rw [ByteArray.size_extract, show (⟨#[97, 98, 99, 100]⟩ : ByteArray).size = 4 from rfl] at q8s; omega)
                            have HQ5 := Aside0.mk q5
                            have HQ1 := Aside0.mk q1
                            clear q5 q6 q7 q8 q0 q1 q2 x1 x2
                            go_upto_region 9 with (first | (go_at_call 40; refine (spec_l1Own.calls _ _ c nx _ ?side1 h1 HAN.out).mono ?_; (case side1 => exact HC.out _ (by first | exact HKP.out | exact HKP.out.drewN _ | exact (HKP.out.drewN _).drewN _)); rintro e w5 ⟨v5, rfl, ho5, hb5⟩; obtain ⟨gn, cn, rfl, gb, gl, gc⟩ := Kd.R_form ho5 (by have h_ := HQ5.out; have h1_ := HQ1.out; omega); have HO5 := Aside0.mk ho5; have HB5 := Aside0.mk hb5; have HGB := Aside0.mk gb; obtain ⟨y5, f5⟩ := Kd.R_celln 0 ho5 i HQ1.out HQ5.out; have HP5 := Aside0.mk (Kd.R_putg ho5 i (wrap64 (rd nx i + 1))); clear ho5 hb5 gb gl gc) | ((with_reducible refine gate_store (t := 3) (p := 46) rfl ?_); refine store_event (t := 3) (p := 46) (v := ?vo) (w1 := (w5.setCell ⟨gn, i.toNat, none⟩ (.int .i64 (wrap64 (rd nx i + 1))))) ?hg ?ho ?hn ?hr ?_; (case ho => rfl); (case hg => rfl); (case hn => rfl); (case hr => first | (go_simp; done) | (go_simp; rfl)); intro w6 hw; have HO6 := Aside0.mk (show Kd.R (Kd.int .i64) 3 w6 _ (fun _ => True) (.slice (some ⟨gn, 0, none⟩) nx.length cn) (nx.set i.toNat (wrap64 (rd nx i + 1))) from hw ▸ HP5.out.1); have HG6 := Aside0.mk (show w5.grownBy w6 (some gn) from hw ▸ HP5.out.2); clear hw y5 f5))
                            have HBW := Aside0.mk (show Below wr.heap.size wr w6 from below_step (show Below wr.heap.size wr _ from (by repeat (first | exact Below.refl _ _ | refine pw_below_drewN ?_ _))) (HB5.out.grown HG6.out HB5.out.size (fun j e => by injection e with e; subst e; exact HGB.out)))
                            have HKP6 := Aside0.mk (HKP.out.below HBW.out)
                            have HBO6 := Aside0.mk (blk_below HBO.out HBW.out)
                            have HO7 := Aside0.mk (Kd.R_below HO.out HBW.out)
                            have HVL := Aside0.mk (Kd.R_lt HO.out)
                            have HBL := Aside0.mk (blk_lt HBO.out)
                            have HWS := Aside0.mk HBW.out.size
                            have HWW := Aside0.mk HKP.out.1
                            obtain ⟨ny, hny⟩ : ∃ ny, ny = nx.set i.toNat (wrap64 (rd nx i + 1)) := ⟨_, rfl⟩
                            have hln : nx.length = ny.length := by rw [hny, List.length_set]
                            have HO8 := HO6.out
                            rw [← hny, hln] at HO8
                            have HO9 := Aside0.mk (Kd.R_mono (ok' := fun j => wr.heap.size ≤ j) (Kd.R_bound HO8) (fun j hj => hj.2.1))
                            rw [← hny] at HR1
                            rw [hln]
                            clear HO8 HO6 HO5 HB5 HG6 HP5 HGB hny hln p14 HQ5 HAN
                            go_wp2_with (first | (go_at_call 44; refine (HIH.out k2 (by have := HK.out; omega) _ ny r R1 (xs ++ acc) (some ⟨gn, 0, none⟩) _ cn c2 bo base ok (fun j => j = bo ∨ some j = vc.ownBlock) vc _ (.inl rfl) (fun j hj => .inr hj) ?sC ?sc ?sR h2 HBO6.out HO7.out HOK.out hbb ?sb ?sf ?sN HR1.out).mono ?_; (case sC => exact Kd.C_kept_own HO9.out (fun j hj hs => by rcases hs with hs | hs; (have h_ := HBL.out; omega); (have h_ := HVL.out j hs.symm; omega))); (case sc => exact (Kd.R_reads' HO9.out).2.1); (case sR => exact fun W' hk => HR.out W' (HKP6.out.then_ hk (fun j hj => by rcases hj with hj | hj; (exact .inl (hj ▸ HSB.out)); (exact HVC.out j hj)))); (case sb => have h_ := HWS.out; have h1_ := HWW.out; omega); (case sf => exact fun j hj => HFR.out j (by have h_ := HWS.out; have h1_ := HWW.out; omega)); (case sN => have h_ := HLEN.out; rw [List.length_append]; omega); rintro e w7 ⟨rfl, v7, hbo7, ho7, hk7, hv7, hb7⟩; have HBO7 := Aside0.mk hbo7; have HO70 := Aside0.mk ho7; have HK7 := Aside0.mk hk7; have HV7 := Aside0.mk hv7; have HB7 := Aside0.mk hb7; clear hbo7 ho7 hk7 hv7 hb7))
                            go_roundg k2
                            case measure => omega
                            case rel => exact ⟨false, wrap64 (i + 1), acc ++ R1, v7, rfl, rfl, HH, ⟨by have := HK.out; omega⟩, HBO7, ⟨by rw [← List.append_assoc]; exact HO70.out⟩, ⟨HKP6.out.then_ HK7.out (fun j hj => by rcases hj with hj | hj; (exact .inl (hj ▸ HSB.out)); (exact HVC.out j hj))⟩, ⟨fun j hj => by rcases HV7.out j hj with (h | h) | h; (exact .inl (h ▸ HSB.out)); (exact HVC.out j h); (exact .inr (by have h_ := HWS.out; have h1_ := HWW.out; omega))⟩, ⟨(HBB.out.trans (HBW.out.mono (Nat.le_trans hbase HKP.out.1))).trans HB7.out⟩⟩
                          · rw [if_neg q8] at H
                            cases H
                        · rw [if_neg q7] at H
                          cases H
                      · rw [if_neg q6] at H
                        cases H
                    · rw [if_neg q5] at H
                      cases H
              · rw [if_neg q2] at H
                cases H
            · rw [if_neg q1] at H
              cases H
          · rw [if_neg q0] at H
            have q0b : decide (i < (r.length : Int)) = false := decide_eq_false q0
            clear q0
            obtain ⟨ya, hya⟩ : ∃ ya, ya = xs ++ acc := ⟨_, rfl⟩
            rw [← hya] at HO
            have HYA := Aside0.mk hya
            clear hya
            obtain ⟨Av, cv, ev⟩ := Kd.R_slice HO.out
            subst ev
            have hbc : wr.cell? ⟨bo, 0, none⟩ = some (.slice Av ya.length cv) := (blk_cell HBO.out 0).trans rfl
            cases done with
            | false =>
              rw [if_neg (by decide)] at H
              obtain rfl := Option.some.inj H
              go_wp2
              go_end0
              exact ⟨rfl, _, HBO.out, HYA.out ▸ HO.out, HKP.out, HVC.out, HBB.out⟩
            | true =>
              rw [if_pos rfl] at H
              obtain rfl := Option.some.inj H
              have hne : ∀ j, some j = (Value.slice Av ya.length cv).ownBlock → j ≠ bo := fun j hj e => HOK.out (e ▸ HO.out.1 j hj.symm)
              have HNE := Aside0.mk hne
              have HLN := Aside0.mk (show ya.length + 1 ≤ 1000000 by rw [HYA.out]; rw [List.length_append] at hN ⊢; rw [List.length_singleton] at hN; omega)
              clear hne H
              go_wp2_with (first | ((with_reducible refine gate_builtin (b := .append) (xs := #[.tmp 62, .tmp 64]) rfl ?_); at_builtin; refine Kd.R_append Kd.string (w0 := wr) base rfl (.tmp 62) (.tmp 64) 32 9 (.string ⟨#[]⟩) 16 rfl Try.underlying32 spec_voLook.infoS rfl (by decide) (by omega) (.slice Av ya.length cv) ya b [.string b] ok (fun _ => False) rfl rfl ?aP (fun _ hk => hk.elim) ?aF ?aO ?aB ?aS ?aL ?_; (case aP => exact rfl); (case aB => exact Below.refl _ _); (case aF => exact fun j hj => HFR.out j (Nat.le_trans HKP.out.1 hj)); (case aO => exact HO.out); (case aS => exact Nat.le_trans hbase HKP.out.1); (case aL => have := HLN.out; omega); intro v1 w1 ho hb hg hat; obtain ⟨A1', c1', ev1⟩ := Kd.R_slice ho; subst ev1; have HO1 := Aside0.mk ho; have HBA := Aside0.mk hb; have HG1 := Aside0.mk hg; have HAT := Aside0.mk hat; have HB1 := Aside0.mk (blk_grown HBO.out hg (fun e => HNE.out bo e rfl)); have hbc1 : w1.cell? ⟨bo, 0, none⟩ = some (.slice Av ya.length cv) := (blk_cell HB1.out 0).trans rfl; have hbf1 := blk_frozen HB1.out 0; clear ho hb hg hat))
              go_end0
              refine ⟨rfl, _, blk_set HB1.out 0 _, ?_, ?_, ?_, (HBB.out.trans HBA.out).setCell hbb _⟩
              · rw [← List.append_assoc, ← HYA.out]
                have hfin := Kd.R_far (p := ⟨bo, 0, none⟩) HO1.out (fun j hj e => by have e2 : j = bo := e; exact HOK.out (e2 ▸ hj)) (.slice A1' (ya.length + 1) c1')
                rw [show (ya ++ [b]).length = ya.length + 1 by simp] at hfin
                exact hfin
              · exact (HKP.out.of_grown HG1.out (fun j hj => HVC.out j hj.symm)).setCell (.inl HSB.out) _
              · intro j hj0
                have hj : some j = (Value.slice A1' (ya ++ [b]).length c1').ownBlock := by rw [List.length_append]; exact hj0
                rcases HAT.out with h | ⟨x, h, hx⟩
                · exact HVC.out j (hj.trans h)
                · rw [h] at hj
                  injection hj with hj
                  exact .inr (by have := HKP.out.1; omega)

/-! ### spec_AllOrdered: function 15 -/
def spec_AllOrdered.f (k : Nat) (l0 : List Int) : Option (List ByteArray × Bool) := (spec_voResult.f k l0).bind fun t => (if t = true then ((spec_voCount.f k l0).bind fun m => (if m > 300 then some ([], false) else ((spec_voLook.f k (⟨#[]⟩ : ByteArray) [0, 0, 0, 0] l0).bind fun L => (if L.length ≤ 1000000 then some (L, true) else none)))) else some ([], false))
theorem spec_AllOrdered.mono : ∀ l k, LeO (spec_AllOrdered.f k l) (spec_AllOrdered.f (k + 1) l) := fun l k => LeO.bind (spec_voResult.mono _ _) fun _ => LeO.ite (LeO.bind (spec_voCount.mono _ _) fun _ => LeO.ite (LeO.refl _) (LeO.bind (spec_voLook.mono _ _ _ _) fun _ => LeO.refl _)) (LeO.refl _)
theorem spec_AllOrdered.infoI : (Try.prog.info? 3).map (fun i => (i.zero, i.size, i.bytes)) = some (some (.int .i64 0), 1, 8) := by kernel_rfl
set_option maxHeartbeats 4000000 in
set_option maxRecDepth 100000 in
theorem spec_AllOrdered.calls (k : Nat) (A0 : Option Addr) (c0 : Nat) (l0 : List Int) (r1 : List ByteArray) (r2 : Bool) (w : World) (hr0 : Kd.C (Kd.int .i64) w A0 l0.length l0) (hc0 : l0.length ≤ c0) (h : spec_AllOrdered.f k l0 = some (r1, r2)) :
    Calls Try.prog 15 #[.slice A0 l0.length c0] w fun e w' => ∃ v0_ : Value, e = .returned (.tuple #[v0_, .bool r2]) ∧ Kd.R Kd.string 9 w' w.heap.size (fun _ => True) v0_ r1 ∧ Below w.heap.size w w' := by
  have HR0 := Aside0.mk hr0
  obtain ⟨tt, A0_, h2⟩ := Option.bind_eq_some_iff.mp h
  have HT := Aside0.mk A0_
  clear h A0_ hr0
  by_cases ct : tt = true
  · subst ct
    rw [if_pos rfl] at h2
    obtain ⟨m, A1_, h3⟩ := Option.bind_eq_some_iff.mp h2
    have HM := Aside0.mk A1_
    clear h2 A1_
    by_cases cm : m > 300
    · rw [if_pos cm] at h3
      have cmb : decide (m > 300) = true := decide_eq_true cm
      have cmc : decide (300 < m) = true := decide_eq_true cm
      simp only [Option.some.injEq, Prod.mk.injEq] at h3
      obtain ⟨rfl, rfl⟩ := h3
      clear cm
      go_enter Try.func15, Try.ntmps15
      go_wp2_with (first | (go_at_call 35; refine (spec_voResult.calls k _ _ l0 true _ HR0.out hc0 HT.out).mono ?_; rintro e w1 ⟨rfl, hb1⟩; have HD1 := Aside0.mk (show Below w.heap.size w w1 from (by obtain ⟨n_, rfl⟩ := hb1.out; exact pw_below_drewN (Below.refl _ _) n_)); clear hb1) | (go_at_call 37; refine (spec_voCount.calls k _ _ l0 m _ (Kd.C_below HR0.out HD1.out) hc0 HM.out).mono ?_; rintro e w2 ⟨rfl, hb2⟩; have HD2 := Aside0.mk (below_step HD1.out hb2); clear hb2))
      go_ret2
      exact ⟨_, by first | rfl | (simp; done), Kd.R_nil _ _ _ _ _, HD2.out⟩
    · rw [if_neg cm] at h3
      have cmb : decide (m > 300) = false := decide_eq_false cm
      have cmc : decide (300 < m) = false := decide_eq_false cm
      obtain ⟨R, A2_, h4⟩ := Option.bind_eq_some_iff.mp h3
      by_cases cl : R.length ≤ 1000000
      · rw [if_pos cl] at h4
        have HL := Aside0.mk A2_
        have HN := Aside0.mk cl
        simp only [Option.some.injEq, Prod.mk.injEq] at h4
        obtain ⟨rfl, rfl⟩ := h4
        clear cm cl h3 A2_
        go_enter Try.func15, Try.ntmps15
        go_wp2_with (first | (go_at_call 35; refine (spec_voResult.calls k _ _ l0 true _ HR0.out hc0 HT.out).mono ?_; rintro e w1 ⟨rfl, hb1⟩; have HD1 := Aside0.mk (show Below w.heap.size w w1 from (by obtain ⟨n_, rfl⟩ := hb1.out; exact pw_below_drewN (Below.refl _ _) n_)); clear hb1) | (go_at_call 37; refine (spec_voCount.calls k _ _ l0 m _ (Kd.C_below HR0.out HD1.out) hc0 HM.out).mono ?_; rintro e w2 ⟨rfl, hb2⟩; have HD2 := Aside0.mk (below_step HD1.out hb2); clear hb2) | ((with_reducible refine gate_dst (N := 4) rfl ?_); refine box_event ?hg (N := 4) ?hd (cs := #[.slice none 0 0]) (t := 32) ?hr ?_; (case hd => rfl); (case hg => rfl); (case hr => first | (go_simp; done) | (go_simp; rfl)); intro bo hbo w3 hbox hb; have HBX := Aside0.mk hbox; have HBE := Aside0.mk (show w.heap.size ≤ bo from hbo ▸ HD2.out.size); have HD3 := Aside0.mk (below_step HD2.out hb); clear hbo hb hbox) | ((with_reducible refine gate_dst (N := 13) rfl ?_); refine Kd.R_make (Kd.int .i64) _ 3 rfl (N := 13) rfl 22 _ _ rfl 4 rfl rfl Try.underlying22 (.int .i64 0) 8 spec_AllOrdered.infoI rfl (by decide) (by omega) 0 (ok := fun _ => True) (okp := fun _ => True) rfl (fun _ hk => hk) trivial (by decide) (by decide) (Below.refl _ _) (Nat.le_refl _) ?_; intro v4 w4 ho hb hg_ hnew_; have ho5 : Kd.R (Kd.int .i64) 3 w4 w3.heap.size (fun _ => True) v4 [0, 0, 0, 0] := ho; obtain ⟨g, cp, ev, gb, gl, gc⟩ := Kd.R_form ho5 (by decide); subst ev; have HO4 := Aside0.mk (Kd.R_mono (ok' := fun j => w3.heap.size ≤ j) (Kd.R_bound ho5) (fun j hj => hj.2.1)); have HD4 := Aside0.mk (below_step HD3.out hb); have HBO4 := Aside0.mk (blk_below HBX.out hb); have HBL := Aside0.mk (show bo < w3.heap.size ∧ w3.heap.size ≤ w4.heap.size from ⟨blk_lt HBX.out, hb.size⟩); clear hg_ hnew_ ho ho5 hb gb gl gc) | (go_at_call 44; refine (spec_voLook.calls k _ [0, 0, 0, 0] l0 R [] (some ⟨g, 0, none⟩) A0 cp c0 bo w.heap.size (fun j => j ≠ bo) (fun j => j = bo) (.slice none 0 0) _ rfl (fun j hj => by cases hj) ?sC ?sc ?sR hc0 HBO4.out (Kd.R_nil _ _ _ _ _) (fun h => h rfl) HBE.out HD4.out.size ?sf ?sN HL.out).mono ?_; (case sC => exact Kd.C_kept_own HO4.out (fun j hj hs => by have h_ := HBL.out; omega)); (case sc => exact (Kd.R_reads' HO4.out).2.1); (case sR => exact Kd.C_kept_came (Kd.heap_int _) HR0.out HD4.out (fun j hj => hj ▸ HBE.out)); (case sf => exact fun j hj => by have h_ := HBL.out; omega); (case sN => have h_ := HN.out; simpa using h_); rintro e w7 ⟨rfl, v7, hbo7, ho7, hk7, hv7, hb7⟩; have HB7 := Aside0.mk hb7; have HO7 := Aside0.mk ho7; have HBO7 := Aside0.mk hbo7; obtain ⟨A7, c7, ev7⟩ := Kd.R_slice ho7; subst ev7; have hbc7 : w7.cell? ⟨bo, 0, none⟩ = some _ := (blk_cell hbo7 0).trans rfl; clear hk7 hv7 ho7 hbo7 hb7))
        go_ret2
        exact ⟨_, by first | rfl | (simp; done), Kd.R_mono HO7.out (fun _ _ => trivial), HD4.out.trans HB7.out⟩
      · rw [if_neg cl] at h4
        cases h4
  · replace ct := Bool.eq_false_iff.mpr ct
    subst ct
    rw [if_neg (show ¬ (false = true) by decide)] at h2
    simp only [Option.some.injEq, Prod.mk.injEq] at h2
    obtain ⟨rfl, rfl⟩ := h2
    go_enter Try.func15, Try.ntmps15
    go_wp2_with (first | (go_at_call 35; refine (spec_voResult.calls k _ _ l0 false _ HR0.out hc0 HT.out).mono ?_; rintro e w1 ⟨rfl, hb1⟩; have HD1 := Aside0.mk (show Below w.heap.size w w1 from (by obtain ⟨n_, rfl⟩ := hb1.out; exact pw_below_drewN (Below.refl _ _) n_)); clear hb1))
    go_ret2
    exact ⟨_, by first | rfl | (simp; done), Kd.R_nil _ _ _ _ _, HD1.out⟩

end Go.Proofs.Ytgpebahbeccniaa.QFnExactAllOrdered
