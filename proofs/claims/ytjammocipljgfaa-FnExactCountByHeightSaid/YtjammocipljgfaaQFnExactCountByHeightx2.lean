/- Written by a program of this repo (xprint: a turned copy of the kit's print, with our own templates in it); Lean checks all of it. -/
import Derived.Test.YtjammocipljgfaaQFnExactCountByHeightx0
import Derived.Test.YtjammocipljgfaaQFnExactCountByHeightx1
namespace Go.Proofs.Ytjammocipljgfaa.QFnExactCountByHeight
open Go.RowKit Go.Proofs.YtjammocipljgfaaZ Go.Proofs.YtjammocipljgfaaZm Go.Maps Go.Proofs.YtjammocipljgfaaW.PrintWords Go.Proofs.YtjammocipljgfaaW.PrintLast Go.Proofs.YtjammocipljgfaaW.PrintMore
attribute [local go_sem] max2_int min2_int max_two min_two max_three min_three max_four min_four   -- for this text's walks alone
set_option linter.unusedVariables false
set_option linter.unusedSimpArgs false

/-! ### spec_reHeights: function 54 -/
def spec_reHeights.l0 : Nat → Int → List Int → Int → Int → Int → Option (List Int)
  | 0, _, _, _, _, _ => none
  | k + 1, x0, x3, x4, x11, x12 => if x12 < x11 then ((spec_reWithin.f k x0 x12).bind fun t124 => (if 0 ≤ x12 then (if x12 < (x3.length : Int) then (spec_reHeights.l0 k x0 (x3.set (x12 : Int).toNat (wrap64 (t124 - x4))) t124 x11 (wrap64 (x12 + 1))) else (none)) else (none))) else (some x3)
def spec_reHeights.f (k : Nat) (a0 : Int) : Option (List Int) := if 0 ≤ (wrap64 (a0 + 1)) then (if (wrap64 (a0 + 1) : Int).toNat ≤ 35184372088832 then ((some (List.replicate (wrap64 (a0 + 1) : Int).toNat 0 : List Int)).bind fun y121 => (spec_reHeights.l0 k a0 y121 0 (y121.length : Int) 0)) else (none)) else (none)
theorem spec_reHeights.mono_l : ∀ k, (∀ y0 y1 y2 y3 y4, LeO (spec_reHeights.l0 k y0 y1 y2 y3 y4) (spec_reHeights.l0 (k + 1) y0 y1 y2 y3 y4))
  | 0 => fun _ _ _ _ _ r h => by simp [spec_reHeights.l0] at h
  | k + 1 => by
    have ih0 := spec_reHeights.mono_l k
    · intro y0 y1 y2 y3 y4
      unfold spec_reHeights.l0
      repeat' first
      | (with_reducible exact ih0 _ _ _ _ _)
      | (with_reducible exact spec_reWithin.mono _ _ _)
      | (with_reducible exact LeO.refl _)
      | (with_reducible exact LeO.none _)
      | (with_reducible refine LeO.ite ?_ ?_)
      | (with_reducible refine LeO.bind ?_ (fun _ => ?_))
      | exact ih0 _ _ _ _ _
      | exact spec_reWithin.mono _ _ _
      | exact LeO.none _
      | refine LeO.ite ?_ ?_
      | refine LeO.bind ?_ (fun _ => ?_)
theorem spec_reHeights.mono : ∀ a0 k, LeO (spec_reHeights.f k a0) (spec_reHeights.f (k + 1) a0) := by
  intro a0 k
  have ih0 := spec_reHeights.mono_l k
  unfold spec_reHeights.f
  repeat' first
      | (with_reducible exact ih0 _ _ _ _ _)
      | (with_reducible exact spec_reWithin.mono _ _ _)
      | (with_reducible exact LeO.refl _)
      | (with_reducible exact LeO.none _)
      | (with_reducible refine LeO.ite ?_ ?_)
      | (with_reducible refine LeO.bind ?_ (fun _ => ?_))
      | exact ih0 _ _ _ _ _
      | exact spec_reWithin.mono _ _ _
      | exact LeO.none _
      | refine LeO.ite ?_ ?_
      | refine LeO.bind ?_ (fun _ => ?_)
set_option maxHeartbeats 8000000 in
set_option maxRecDepth 100000 in
theorem spec_reHeights.calls (k : Nat) (a0 : Int) (r : List Int) (w : World) (h : spec_reHeights.f k a0 = some r) :
    Calls Try.prog 54 #[.int .i64 a0] w fun e w' => ∃ v0_ : Value, e = .returned (v0_) ∧ Kd.R (Kd.int .i64) 3 w' w.heap.size (fun _ => True) v0_ r ∧ Below w.heap.size w w' := by
  have HB := Aside0.mk (Below.refl w.heap.size w)
  have H : (if 0 ≤ (wrap64 (a0 + 1)) then (if (wrap64 (a0 + 1) : Int).toNat ≤ 35184372088832 then ((some (List.replicate (wrap64 (a0 + 1) : Int).toNat 0 : List Int)).bind fun y121 => (spec_reHeights.l0 k a0 y121 0 (y121.length : Int) 0)) else (none)) else (none)) = some r := h
  clear h
  obtain ⟨ji2, hji2⟩ : ∃ j_ : Int, (wrap64 (a0 + 1)) = j_ := ⟨_, rfl⟩
  replace H : (if 0 ≤ (ji2) then (if (ji2 : Int).toNat ≤ 35184372088832 then ((some (List.replicate (ji2 : Int).toNat 0 : List Int)).bind fun y121 => (spec_reHeights.l0 k a0 y121 0 (y121.length : Int) 0)) else (none)) else (none)) = some r := by first | (rw [hji2] at H; exact H) | (simp only [hji2] at H ⊢; exact H)
  have hji2w : (IntKind.i64.wrap (a0 + 1)) = ji2 := (i64_w _).trans hji2
  by_cases c3 : 0 ≤ (ji2)
  · rw [if_pos c3] at H
    have c3b0 := eq_true c3
    have c3b1 : decide (0 ≤ (ji2)) = true := decide_eq_true c3
    clear c3
    by_cases c4 : (ji2 : Int).toNat ≤ 35184372088832
    · rw [if_pos c4] at H
      have c4b0 := eq_true c4
      have c4b1 : decide ((ji2 : Int).toNat ≤ 35184372088832) = true := decide_eq_true c4
      clear c4
      obtain ⟨y121, hy121⟩ : ∃ y_ : List Int, y_ = (List.replicate (ji2 : Int).toNat 0) := ⟨_, rfl⟩
      replace H : (spec_reHeights.l0 k a0 y121 0 (y121.length : Int) 0) = some r := by first | (rw [hy121]; with_reducible exact H) | (have H2_ := (Option.bind_some _ _).symm.trans H; rw [hy121]; with_reducible exact H2_) | (have H2_ := (Option.bind_some _ _).symm.trans H; with_reducible exact H2_) | with_reducible exact H | (rw [hy121]; exact H) | exact H
      have Ny121 := Aside0.mk hy121
      clear hy121
      have H' := Aside0.mk H
      clear H
      go_enter Try.func54, Try.ntmps54
      go_wp2_with (first | ((with_reducible refine gate_dst (N := 9) rfl ?_); refine Kd.R_make (Kd.int .i64) _ 3 rfl (N := 9) rfl 30 _ _ rfl ji2 rfl rfl Try.underlying30 (.int .i64 0) 8 info3 rfl (by decide) (by omega) 0 (ok := fun _ => True) (okp := fun _ => True) rfl (fun _ hk => hk) trivial (of_decide_eq_true (by first | (with_reducible assumption) | assumption)) (Nat.le_trans (Nat.mul_le_mul_right _ (of_decide_eq_true (by first | (with_reducible assumption) | assumption) : ji2.toNat ≤ 35184372088832)) (by omega)) (Below.refl _ _) (Nat.le_refl _) ?_; intro v122 w5 ho6 hb hg_ hnew_; clear hg_ hnew_; (first | rw [← Ny121.out] at ho6 | (simp only [Int.reduceToNat] at ho6; rw [← Ny121.out] at ho6)); have n0_ := Aside0.mk (Kd.R_lower ho6 (below_size (by repeat (first | (with_reducible first | exact HB.out | apply below_alloc | apply pw_below_drewN | apply below_drew1) | exact HB.out)))); have n1_ := Aside0.mk (below_step (by repeat (first | (with_reducible first | exact HB.out | apply below_alloc | apply pw_below_drewN | apply below_drew1) | exact HB.out)) hb); clear HB; have HO123 := n0_; have HB := n1_; clear n0_ n1_; clear hb ho6; obtain ⟨Ao7, co7, eo7⟩ := Kd.R_slice HO123.out; subst eo7))
      go_loopg [4, 12] k (fun kq v4 v12 w' => ∃ (x3_1 : List Int) (x4_1 : Int) (x12_1 : Int), v4 = .int .i64 x4_1 ∧ v12 = .int .i64 x12_1 ∧ Aside0 (spec_reHeights.l0 kq a0 x3_1 x4_1 (y121.length : Int) x12_1 = some r) ∧ Aside0 (kq ≤ k) ∧ Aside0 (Kd.R (Kd.int .i64) 3 w' w.heap.size (fun _ => True) (.slice Ao7 y121.length co7) x3_1) ∧ Aside0 (Below w.heap.size w w'))
      case atStart => exact ⟨(y121), (0), (0), (by first | rfl | (simp; done) | (simp [*]; done)), (by first | rfl | (simp; done) | (simp [*]; done)), H', ⟨Nat.le_refl _⟩, ⟨by (with_reducible repeat (first | apply Kd.R_alloc | apply Kd.R_drewN | apply Kd.R_drew)); exact HO123.out⟩, ⟨by repeat (first | (with_reducible first | exact HB.out | apply below_alloc | apply pw_below_drewN | apply below_drew1) | exact HB.out)⟩⟩
      case round =>
        clear H'
        try clear p2
        try clear c3
        try clear c3b0
        try clear c3b1
        try clear c4
        try clear c4b0
        try clear c4b1
        try clear c5
        try clear p6
        obtain ⟨x3_1, x4_1, x12_1, rfl, rfl, HA, HK1, HO_3, HB⟩ := hrel
        have hl3_1 := (Kd.R_reads' HO_3.out).1
        rw [hl3_1] at HO_3
        (try simp only [hl3_1])
        cases gk with
        | zero => exact absurd HA.out (by simp [spec_reHeights.l0])
        | succ k1 =>
          have H := HA.out
          clear HA
          simp only [spec_reHeights.l0] at H
          by_cases c8 : x12_1 < (y121.length : Int)
          · rw [if_pos c8] at H
            have c8b0 : decide (x12_1 < (y121.length : Int)) = true := decide_eq_true c8
            (try (have c8b0h := c8b0; simp only [hl3_1] at c8b0h))
            clear c8
            replace H := Option.bind_eq_some_iff.mp H
            obtain ⟨t124, A90, H⟩ := H
            replace H : (if 0 ≤ x12_1 then (if x12_1 < (x3_1.length : Int) then (spec_reHeights.l0 k1 a0 (x3_1.set (x12_1 : Int).toNat (wrap64 (t124 - x4_1))) t124 (y121.length : Int) (wrap64 (x12_1 + 1))) else (none)) else (none)) = some r := H
            have A9 := Aside0.mk A90
            clear A90
            by_cases c10 : 0 ≤ x12_1
            · rw [if_pos c10] at H
              have c10b0 : decide (0 ≤ x12_1) = true := decide_eq_true c10
              clear c10
              by_cases c11 : x12_1 < (x3_1.length : Int)
              · rw [if_pos c11] at H
                have c11b0 : decide (x12_1 < (x3_1.length : Int)) = true := decide_eq_true c11
                (try (have c11b0h := c11b0; simp only [hl3_1] at c11b0h))
                clear c11
                obtain ⟨y125, hy125⟩ : ∃ y_ : List Int, y_ = (x3_1.set (x12_1 : Int).toNat (wrap64 (t124 - x4_1))) := ⟨_, rfl⟩
                replace H : (spec_reHeights.l0 k1 a0 y125 t124 (y121.length : Int) (wrap64 (x12_1 + 1))) = some r := by first | (rw [hy125]; with_reducible exact H) | (have H2_ := (Option.bind_some _ _).symm.trans H; rw [hy125]; with_reducible exact H2_) | (have H2_ := (Option.bind_some _ _).symm.trans H; with_reducible exact H2_) | with_reducible exact H | (rw [hy125]; exact H) | exact H
                have Ny125 := Aside0.mk hy125
                clear hy125
                have H' := Aside0.mk H
                clear H
                go_wp2_with (first | ((with_reducible refine gate_callee (f := 70) rfl ?_); refine goesL_ (some 17) rfl rfl Try.func70 (by kernel_rfl) rfl #[.int .i64 a0, .int .i64 x12_1] rfl (by (try simp only [List.map_toArray, List.map_cons, List.map_nil]); first | done | rfl | (simp only [List.length_drop, List.length_take]; rfl)) ?_; (with_reducible refine (spec_reWithin.calls k1 a0 x12_1 t124 _ A9.out).mono ?_); rintro e w13 ⟨rfl, hb⟩; refine ⟨_, rfl, ?_⟩; have n0_ := Aside0.mk (Kd.R_below (by (with_reducible repeat (first | apply Kd.R_alloc | apply Kd.R_drewN | apply Kd.R_drew)); exact HO_3.out) hb); have n1_ := Aside0.mk (below_step (by repeat (first | (with_reducible first | exact HB.out | apply below_alloc | apply pw_below_drewN | apply below_drew1) | exact HB.out)) hb); clear HO_3; clear HB; have HO_3 := n0_; have HB := n1_; clear n0_ n1_; (try clear hb); (try clear hb2); (try clear hk); (try clear hi); have p12 : 0 ≤ (x12_1 : Int) := of_decide_eq_true (by first | (with_reducible assumption) | assumption); have q12 : (x12_1 : Int) < ((x3_1.length : Int) : Int) := of_decide_eq_true (by first | (with_reducible assumption) | assumption); obtain ⟨go12, co12, eo12, gb12, gl12, cl12, HG12⟩ := Kd.R_form HO_3.out (by omega); (first | cases eo12 | (injection eo12 with ea_ en_ ec_; (first | subst ea_ | (injection ea_ with ea_; subst ea_)); subst ec_; clear en_)); have GB12 := Aside0.mk gb12; have GG12 := Aside0.mk HG12; clear gb12 gl12 HG12; obtain ⟨hx12_0, hf12_0⟩ := Kd.R_celln 0 HO_3.out (x12_1 : Int) p12 q12; replace p12 := eq_true p12; replace q12 := eq_true q12; obtain ⟨hy14_, hz14_⟩ := Kd.R_celln 0 HO_3.out (x12_1 : Int) (of_decide_eq_true (by first | (with_reducible assumption) | assumption)) (of_decide_eq_true (by first | (with_reducible assumption) | assumption)); have HP14 := Kd.R_putg HO_3.out (x12_1 : Int) (wrap64 (t124 - x4_1))) | ((with_reducible refine gate_store (t := 3) (p := 23) rfl ?_); refine store_event (t := 3) (p := 23) (v := ?vo_w15) (w1 := (w13.setCell ⟨go12, (x12_1 : Int).toNat, none⟩ (.int .i64 (wrap64 (t124 - x4_1))))) ?hg ?ho ?hn ?hr ?_; (case ho => rfl); (case hg => rfl); (case hn => rfl); (case hr => first | (go_simp; done) | (go_simp; rfl)); intro w15 hw; have hg : w13.grownBy w15 (some go12) := (by rw [hw]; exact HP14.2); have hp_ : Kd.R (Kd.int .i64) 3 w15 w.heap.size (fun _ => True) (.slice (some ⟨go12, 0, none⟩) x3_1.length co7) y125 := (by rw [hw, Ny125.out]; exact HP14.1); clear HP14; have n0_ := Aside0.mk (hp_); have n1_ := Aside0.mk ((by rw [hw]; exact below_set (HB.out) GB12.out : Below w.heap.size w w15)); clear HO_3; clear HB; have HO_3 := n0_; have HB := n1_; clear n0_ n1_; clear hg hw hp_))
                (try simp only [← hl3_1])
                go_roundg k1
                case measure => have := HK1.out; omega
                case rel => exact ⟨(y125), (t124), (wrap64 (x12_1 + 1)), (by first | rfl | (simp; done) | (simp [*]; done)), (by first | rfl | (simp; done) | (simp [*]; done)), H', ⟨by have := HK1.out; omega⟩, ⟨by (try simp only [hl3_1]); (with_reducible repeat (first | apply Kd.R_alloc | apply Kd.R_drewN | apply Kd.R_drew)); exact HO_3.out⟩, ⟨by repeat (first | (with_reducible first | exact HB.out | apply below_alloc | apply pw_below_drewN | apply below_drew1) | exact HB.out)⟩⟩
              · rw [if_neg c11] at H
                exact absurd H (by simp)
            · rw [if_neg c10] at H
              exact absurd H (by simp)
          · rw [if_neg c8] at H
            have c8b0 : decide (x12_1 < (y121.length : Int)) = false := decide_eq_false c8
            (try (have c8b0h := c8b0; simp only [hl3_1] at c8b0h))
            clear c8
            obtain rfl := Option.some.inj H
            go_wp2
            go_ret
            exact ⟨_, by first | rfl | (simp [errW_none, errW_some] <;> rfl) | (simp only [← hji2]; first | rfl | (simp [errW_none, errW_some] <;> rfl)) | (simp [*, errW_none, errW_some] <;> rfl), by (with_reducible repeat (first | apply Kd.R_alloc | apply Kd.R_drewN | apply Kd.R_drew)); exact HO_3.out, by repeat (first | (with_reducible first | exact HB.out | apply below_alloc | apply pw_below_drewN | apply below_drew1) | exact HB.out)⟩
    · rw [if_neg c4] at H
      exact absurd H (by simp)
  · rw [if_neg c3] at H
    exact absurd H (by simp)

/-! ### spec_CountByHeight: function 40 -/
def spec_CountByHeight.f (k : Nat) (a0 : Int) : Option (List Int × Bool) := (spec_reGood.f a0).bind fun t126 => (if t126 = true then ((spec_reHeights.f k a0).bind fun t127 => (some (t127, true))) else (some (([] : List Int), false)))
theorem spec_CountByHeight.mono : ∀ a0 k, LeO (spec_CountByHeight.f k a0) (spec_CountByHeight.f (k + 1) a0) := by
  intro a0 k
  unfold spec_CountByHeight.f
  repeat' first
      | (with_reducible exact spec_reHeights.mono _ _)
      | (with_reducible exact LeO.refl _)
      | (with_reducible exact LeO.none _)
      | (with_reducible refine LeO.ite ?_ ?_)
      | (with_reducible refine LeO.bind ?_ (fun _ => ?_))
      | exact spec_reHeights.mono _ _
      | exact LeO.none _
      | refine LeO.ite ?_ ?_
      | refine LeO.bind ?_ (fun _ => ?_)
set_option maxHeartbeats 8000000 in
set_option maxRecDepth 100000 in
theorem spec_CountByHeight.calls (k : Nat) (a0 : Int) (r1 : List Int) (r2 : Bool) (w : World) (h : spec_CountByHeight.f k a0 = some (r1, r2)) :
    Calls Try.prog 40 #[.int .i64 a0] w fun e w' => ∃ v0_ : Value, e = .returned (.tuple #[v0_, .bool r2]) ∧ Kd.R (Kd.int .i64) 3 w' w.heap.size (fun _ => True) v0_ r1 ∧ Below w.heap.size w w' := by
  have HB := Aside0.mk (Below.refl w.heap.size w)
  have H : ((spec_reGood.f a0).bind fun t126 => (if t126 = true then ((spec_reHeights.f k a0).bind fun t127 => (some (t127, true))) else (some (([] : List Int), false)))) = some (r1, r2) := h
  clear h
  replace H := Option.bind_eq_some_iff.mp H
  obtain ⟨t126, A20, H⟩ := H
  replace H : (if t126 = true then ((spec_reHeights.f k a0).bind fun t127 => (some (t127, true))) else (some (([] : List Int), false))) = some (r1, r2) := H
  have A2 := Aside0.mk A20
  clear A20
  by_cases c3 : t126 = true
  · subst c3
    have H1 : ((spec_reHeights.f k a0).bind fun t127 => (some (t127, true))) = some (r1, r2) := by rw [if_pos rfl] at H; exact H
    clear H
    have H := H1
    clear H1
    replace H := Option.bind_eq_some_iff.mp H
    obtain ⟨t127, A40, H⟩ := H
    replace H : (some (t127, true)) = some (r1, r2) := H
    have A4 := Aside0.mk A40
    clear A40
    simp only [Option.some.injEq, Prod.mk.injEq] at H
    obtain ⟨rfl, rfl⟩ := H
    go_enter Try.func40, Try.ntmps40
    go_wp2_with (first | ((with_reducible refine gate_callee (f := 46) rfl ?_); refine goesL_ (some 5) rfl rfl Try.func46 (by kernel_rfl) rfl #[.int .i64 a0] rfl (by (try simp only [List.map_toArray, List.map_cons, List.map_nil]); first | done | rfl | (simp only [List.length_drop, List.length_take]; rfl)) ?_; (with_reducible refine (spec_reGood.calls a0 true _ A2.out).mono ?_); rintro e w' ⟨rfl, ⟨nd, rfl⟩⟩; refine ⟨_, rfl, ?_⟩) | ((with_reducible refine gate_callee (f := 54) rfl ?_); refine goesL_ (some 8) rfl rfl Try.func54 (by kernel_rfl) rfl #[.int .i64 a0] rfl (by (try simp only [List.map_toArray, List.map_cons, List.map_nil]); first | done | rfl | (simp only [List.length_drop, List.length_take]; rfl)) ?_; (with_reducible refine (spec_reHeights.calls k a0 t127 _ A4.out).mono ?_); rintro e w5 ⟨v128, rfl, ho0, hb⟩; refine ⟨_, rfl, ?_⟩; have n0_ := Aside0.mk (Kd.R_lower ho0 (below_size (by repeat (first | (with_reducible first | exact HB.out | apply below_alloc | apply pw_below_drewN | apply below_drew1) | exact HB.out)))); have n1_ := Aside0.mk (below_step (by repeat (first | (with_reducible first | exact HB.out | apply below_alloc | apply pw_below_drewN | apply below_drew1) | exact HB.out)) hb); clear HB; have HO129 := n0_; have HB := n1_; clear n0_ n1_; (try clear hb); (try clear hb2); (try clear hk); (try clear hi); (try clear ho0)))
    go_ret2
    exact ⟨_, by first | rfl | (simp [errW_none, errW_some] <;> rfl) | (simp [*, errW_none, errW_some] <;> rfl), by (with_reducible repeat (first | apply Kd.R_alloc | apply Kd.R_drewN | apply Kd.R_drew)); exact HO129.out, by repeat (first | (with_reducible first | exact HB.out | apply below_alloc | apply pw_below_drewN | apply below_drew1) | exact HB.out)⟩
  · replace c3 := Bool.eq_false_iff.mpr c3
    subst c3
    have H1 : (some (([] : List Int), false)) = some (r1, r2) := by rw [if_neg (show ¬ (false = true) by decide)] at H; exact H
    clear H
    have H := H1
    clear H1
    simp only [Option.some.injEq, Prod.mk.injEq] at H
    obtain ⟨rfl, rfl⟩ := H
    go_enter Try.func40, Try.ntmps40
    go_wp2_with (first | ((with_reducible refine gate_callee (f := 46) rfl ?_); refine goesL_ (some 5) rfl rfl Try.func46 (by kernel_rfl) rfl #[.int .i64 a0] rfl (by (try simp only [List.map_toArray, List.map_cons, List.map_nil]); first | done | rfl | (simp only [List.length_drop, List.length_take]; rfl)) ?_; (with_reducible refine (spec_reGood.calls a0 false _ A2.out).mono ?_); rintro e w' ⟨rfl, ⟨nd, rfl⟩⟩; refine ⟨_, rfl, ?_⟩))
    go_ret2
    exact ⟨_, by first | rfl | (simp [errW_none, errW_some] <;> rfl) | (simp [*, errW_none, errW_some] <;> rfl), by first | exact Kd.R_nil _ _ _ _ _ | exact Kd.N_nil _ _ _ _ _ | exact Kd.V_nil _ _ _ _ _ | exact Kd.Q_nil _ _ _ _ _ | exact Kd.S_nil _ _ _ _ _, by repeat (first | (with_reducible first | exact HB.out | apply below_alloc | apply pw_below_drewN | apply below_drew1) | exact HB.out)⟩

/-! ### impl_in: function 56 -/
def impl_in.f (a0 : Int) (a1 : Int) (a2 : Int) : Option (Bool) := if a1 ≤ a0 then (some (decide (a0 ≤ a2))) else (some false)
set_option maxHeartbeats 8000000 in
set_option maxRecDepth 100000 in
theorem impl_in.calls (a0 : Int) (a1 : Int) (a2 : Int) (r : Bool) (w : World) (h : impl_in.f a0 a1 a2 = some r) :
    Calls Try.prog 56 #[.int .i64 a0, .int .i64 a1, .int .i64 a2] w fun e w' => e = .returned (.bool r) ∧ Drawn0 w w' := by
  have H : (if a1 ≤ a0 then (some (decide (a0 ≤ a2))) else (some false)) = some r := h
  clear h
  by_cases c4 : a1 ≤ a0
  · rw [if_pos c4] at H
    have c4b0 : decide (a1 ≤ a0) = true := decide_eq_true c4
    clear c4
    obtain rfl := Option.some.inj H
    go_enter Try.func56, Try.ntmps56
    go_wp2
    go_ret
    exact ⟨by first | rfl | (simp; done) | (simp [*]; done), by repeat (first | exact Drawn0.refl _ | apply Drawn0.step)⟩
  · rw [if_neg c4] at H
    have c4b0 : decide (a1 ≤ a0) = false := decide_eq_false c4
    clear c4
    obtain rfl := Option.some.inj H
    go_enter Try.func56, Try.ntmps56
    go_wp2
    go_ret
    exact ⟨by first | rfl | (simp; done) | (simp [*]; done), by repeat (first | exact Drawn0.refl _ | apply Drawn0.step)⟩

/-! ### impl_isPairs: function 48 -/
def impl_isPairs.f (a0 : Int) : Option (Bool) := (impl_in.f a0 0 15).bind fun t130 => (some t130)
set_option maxHeartbeats 8000000 in
set_option maxRecDepth 100000 in
theorem impl_isPairs.calls (a0 : Int) (r : Bool) (w : World) (h : impl_isPairs.f a0 = some r) :
    Calls Try.prog 48 #[.int .i64 a0] w fun e w' => e = .returned (.bool r) ∧ Drawn0 w w' := by
  have H : ((impl_in.f a0 0 15).bind fun t130 => (some t130)) = some r := h
  clear h
  replace H := Option.bind_eq_some_iff.mp H
  obtain ⟨t130, A20, H⟩ := H
  replace H : (some t130) = some r := H
  have A2 := Aside0.mk A20
  clear A20
  obtain rfl := Option.some.inj H
  go_enter Try.func48, Try.ntmps48
  go_wp2_with (first | ((with_reducible refine gate_callee (f := 56) rfl ?_); refine goesL_ (some 4) rfl rfl Try.func56 (by kernel_rfl) rfl #[.int .i64 a0, .int .i64 0, .int .i64 15] rfl (by (try simp only [List.map_toArray, List.map_cons, List.map_nil]); first | done | rfl | (simp only [List.length_drop, List.length_take]; rfl)) ?_; (with_reducible refine (impl_in.calls a0 0 15 t130 _ A2.out).mono ?_); rintro e w' ⟨rfl, ⟨nd, rfl⟩⟩; refine ⟨_, rfl, ?_⟩))
  go_ret
  exact ⟨by first | rfl | (simp; done) | (simp [*]; done), by repeat (first | exact Drawn0.refl _ | apply Drawn0.step)⟩

/-! ### impl_numbers: function 57 -/
def impl_numbers.l0 : Nat → (Int → Option Int) → List Int → Int → Int → Option (List Int)
  | 0, _, _, _, _ => none
  | k + 1, of, x5, x9, x10 => if x10 < x9 then ((of x10).bind fun t => (if x5.length < 17592186044416 then (impl_numbers.l0 k of (x5 ++ [t]) x9 (wrap64 (x10 + 1))) else (none))) else (some x5)
def impl_numbers.f (k : Nat) (a0 : Int) (of : Int → Option Int) : Option (List Int) := impl_numbers.l0 k of ([] : List Int) (wrap64 (a0 + 1)) 0
theorem impl_numbers.mono_l : ∀ k (of of' : Int → Option Int), (∀ x, LeO (of x) (of' x)) → ∀ y0 y1 y2, LeO (impl_numbers.l0 k of y0 y1 y2) (impl_numbers.l0 (k + 1) of' y0 y1 y2)
  | 0 => fun _ _ _ _ _ _ r h => by simp [impl_numbers.l0] at h
  | k + 1 => by
    intro of of' hof y0 y1 y2
    have ih0 := impl_numbers.mono_l k of of' hof
    unfold impl_numbers.l0
    refine LeO.ite (LeO.bind (hof _) fun _ => LeO.ite (ih0 _ _ _) (LeO.refl _)) (LeO.refl _)
theorem impl_numbers.mono {of of' : Int → Option Int} (hof : ∀ x, LeO (of x) (of' x)) : ∀ a0 k, LeO (impl_numbers.f k a0 of) (impl_numbers.f (k + 1) a0 of') := fun _ k => impl_numbers.mono_l k of of' hof _ _ _
set_option maxHeartbeats 2000000 in
set_option maxRecDepth 100000 in
theorem impl_numbers.calls (k : Nat) (a0 : Int) (g : FuncId) (lb : Array Value) (of : Int → Option Int) (r : List Int) (w : World) (he : Enters Try.prog g) (hof : Ora1 Try.prog g lb w of) (h : impl_numbers.f k a0 of = some r) :
    Calls Try.prog 57 #[.int .i64 a0, .func (.func g) #[] lb] w fun e w' => ∃ v0_ : Value, e = .returned (v0_) ∧ Kd.R (Kd.int .i64) 3 w' w.heap.size (fun _ => True) v0_ r ∧ Below w.heap.size w w' := by
  have HOF := Aside0.mk hof
  clear hof
  have heg : ∀ (args : Array Value) (w : World), (callFunc g args).run Try.prog w = .ok (.enter g args) w := he
  clear he
  have HB := Aside0.mk (Below.refl w.heap.size w)
  have H : impl_numbers.l0 k of ([] : List Int) (wrap64 (a0 + 1)) 0 = some r := h
  clear h
  obtain ⟨y160, hy160⟩ : ∃ y_ : List Int, y_ = (([] : List Int)) := ⟨_, rfl⟩
  replace H : impl_numbers.l0 k of y160 (wrap64 (a0 + 1)) 0 = some r := by rw [hy160]; exact H
  have Ny160 := Aside0.mk hy160
  clear hy160
  have H' := Aside0.mk H
  clear H
  go_enter Try.func57, Try.ntmps57
  go_wp2_with (first | ((with_reducible refine gate_dst (N := 7) rfl ?_); refine Kd.R_lit (Kd.int .i64) _ 3 ?hg (N := 7) ?hd (xs := ([] : List Int)) (inner := []) (ok := fun _ => True) (okp := fun _ => True) ?hr ?hp (fun _ hk => hk) trivial (Below.refl _ _) (Nat.le_refl _) (by simp) ?_; (case hd => rfl); (case hg => rfl); (case hr => first | (go_simp; done) | (go_simp; rfl)); (case hp => exact (Reps.none _ _)); intro v161 w4 ho5 hb hg_ hnew_; clear hg_ hnew_; (first | rw [← Ny160.out] at ho5 | (simp only [Int.reduceToNat] at ho5; rw [← Ny160.out] at ho5)); have n0_ := Aside0.mk (Kd.R_lower ho5 (below_size (by repeat (first | (with_reducible first | exact HB.out | apply below_alloc | apply pw_below_drewN | apply below_drew1) | exact HB.out)))); have n1_ := Aside0.mk (below_step (by repeat (first | (with_reducible first | exact HB.out | apply below_alloc | apply pw_below_drewN | apply below_drew1) | exact HB.out)) hb); clear HB; have HO162 := n0_; have HB := n1_; clear n0_ n1_; clear hb ho5))
  go_loopg [5, 10] k (fun kq v5 v10 w' => ∃ (x5_1 : List Int) (x10_1 : Int), v10 = .int .i64 x10_1 ∧ Aside0 (impl_numbers.l0 kq of x5_1 (wrap64 (a0 + 1)) x10_1 = some r) ∧ Aside0 (kq ≤ k) ∧ Aside0 (Kd.R (Kd.int .i64) 3 w' w.heap.size (fun _ => True) v5 x5_1) ∧ Aside0 (Below w.heap.size w w'))
  case atStart => exact ⟨(y160), (0), (by first | rfl | (simp; done) | (simp [*]; done)), H', ⟨Nat.le_refl _⟩, ⟨by (with_reducible repeat (first | apply Kd.R_alloc | apply Kd.R_drewN | apply Kd.R_drew)); exact HO162.out⟩, ⟨by repeat (first | (with_reducible first | exact HB.out | apply below_alloc | apply pw_below_drewN | apply below_drew1) | exact HB.out)⟩⟩
  case round =>
    clear H'
    obtain ⟨x5_1, x10_1, rfl, HA, HK1, HO_5, HB⟩ := hrel
    cases gk with
    | zero => exact absurd HA.out (by simp [impl_numbers.l0])
    | succ k1 =>
      have H := HA.out
      clear HA
      simp only [impl_numbers.l0] at H
      by_cases c6 : x10_1 < wrap64 (a0 + 1)
      · rw [if_pos c6] at H
        have c6b0 : decide (x10_1 < wrap64 (a0 + 1)) = true := decide_eq_true c6
        clear c6
        replace H := Option.bind_eq_some_iff.mp H
        obtain ⟨t163, A70, H⟩ := H
        have A7 := Aside0.mk A70
        clear A70
        by_cases c9 : x5_1.length < 17592186044416
        · rw [if_pos c9] at H
          have LMc9 := Aside0.mk c9
          clear c9
          obtain ⟨y165, hy165⟩ : ∃ y_ : List Int, y_ = (x5_1 ++ [t163]) := ⟨_, rfl⟩
          replace H : (impl_numbers.l0 k1 of y165 (wrap64 (a0 + 1)) (wrap64 (x10_1 + 1))) = some r := by rw [hy165]; exact H
          have Ny165 := Aside0.mk hy165
          clear hy165
          have H' := Aside0.mk H
          clear H
          go_wp2_with (first | (go_at_fn g; refine (HOF.out x10_1 t163 _ (by repeat (first | (with_reducible first | exact HB.out | apply below_alloc | apply pw_below_drewN | apply below_drew1) | exact HB.out)) A7.out).mono ?_; rintro e w13 ⟨rfl, hb⟩; have n0_ := Aside0.mk (Kd.R_below (by (with_reducible repeat (first | apply Kd.R_alloc | apply Kd.R_drewN | apply Kd.R_drew)); exact HO_5.out) hb); have n1_ := Aside0.mk (below_step (by repeat (first | (with_reducible first | exact HB.out | apply below_alloc | apply pw_below_drewN | apply below_drew1) | exact HB.out)) hb); clear HO_5; clear HB; have HO_5 := n0_; have HB := n1_; clear n0_ n1_; clear hb) | ((with_reducible refine gate_builtin (b := .append) (xs := #[.tmp 13, .tmp 17]) rfl ?_); at_builtin; refine Kd.R_append (Kd.int .i64) (w0 := w) w.heap.size rfl (.tmp 13) (.tmp 17) 30 3 (.int .i64 0) 8 rfl Try.underlying30 info3 rfl (by decide) (by omega) u5 x5_1 t163 [.int .i64 t163] (fun _ => True) (fun _ => False) rfl rfl ?aP (fun _ hk => hk.elim) ?aF ?aO ?aB ?aS ?aL ?_; (case aP => exact rfl); (case aB => exact (by repeat (first | (with_reducible first | exact HB.out | apply below_alloc | apply pw_below_drewN | apply below_drew1) | exact HB.out))); (case aF => exact (fun _ _ => trivial)); (case aO => exact (by (with_reducible repeat (first | apply Kd.R_alloc | apply Kd.R_drewN | apply Kd.R_drew)); exact HO_5.out)); (case aS => exact (below_size (by repeat (first | (with_reducible first | exact HB.out | apply below_alloc | apply pw_below_drewN | apply below_drew1) | exact HB.out)))); (case aL => have := LMc9.out; omega); intro v166 w10 ho hb hg hat; rw [← Ny165.out] at ho; have n0_ := Aside0.mk (hb); have n1_ := Aside0.mk (ho); clear HB; clear HO_5; have HB := n0_; have HO167 := n1_; clear n0_ n1_; clear ho hb hg hat))
          go_roundg k1
          case measure => have := HK1.out; omega
          case rel => exact ⟨(y165), (wrap64 (x10_1 + 1)), (by first | rfl | (simp; done) | (simp [*]; done)), H', ⟨by have := HK1.out; omega⟩, ⟨by (with_reducible repeat (first | apply Kd.R_alloc | apply Kd.R_drewN | apply Kd.R_drew)); exact HO167.out⟩, ⟨by repeat (first | (with_reducible first | exact HB.out | apply below_alloc | apply pw_below_drewN | apply below_drew1) | exact HB.out)⟩⟩
        · rw [if_neg c9] at H
          exact absurd H (by simp)
      · rw [if_neg c6] at H
        have c6b0 : decide (x10_1 < wrap64 (a0 + 1)) = false := decide_eq_false c6
        clear c6
        obtain rfl := Option.some.inj H
        go_wp2
        go_ret
        exact ⟨_, by first | rfl | (simp; done) | (simp [*]; done), by (with_reducible repeat (first | apply Kd.R_alloc | apply Kd.R_drewN | apply Kd.R_drew)); exact HO_5.out, by repeat (first | (with_reducible first | exact HB.out | apply below_alloc | apply pw_below_drewN | apply below_drew1) | exact HB.out)⟩

-- NOT PRINTED: function 73 (impl_between_1)

/-! ### impl_between_2: function 74 -/
def impl_between_2.g (ups downs low high : Int) : Nat → Int → Int → Option Int
  | 0, _, _ => none
  | k + 1, u, d => if ups < u then some 0 else (if downs < d then some 0 else ((impl_in.f (wrap64 (u - d)) low high).bind fun t => (if t = true then (if u = ups ∧ d = downs then some 1 else ((impl_between_2.g ups downs low high k (wrap64 (u + 1)) d).bind fun a => (impl_between_2.g ups downs low high k u (wrap64 (d + 1))).bind fun b => some (wrap64 (a + b)))) else some 0)))
theorem impl_between_2.mono (ups downs low high : Int) : ∀ k u d, LeO (impl_between_2.g ups downs low high k u d) (impl_between_2.g ups downs low high (k + 1) u d)
  | 0 => fun _ _ r h => by simp [impl_between_2.g] at h
  | k + 1 => by
    intro u d
    have ih := impl_between_2.mono ups downs low high k
    unfold impl_between_2.g
    refine LeO.ite (LeO.refl _) (LeO.ite (LeO.refl _) (LeO.bind (LeO.refl _) fun _ => LeO.ite (LeO.ite (LeO.refl _) (LeO.bind (ih _ _) fun _ => LeO.bind (ih _ _) fun _ => LeO.refl _)) (LeO.refl _)))
theorem impl_between_2.one (ups downs low high : Int) {k k' : Nat} {u d a b : Int} (h : impl_between_2.g ups downs low high k u d = some a) (h' : impl_between_2.g ups downs low high k' u d = some b) : a = b := by
  have up : ∀ (k : Nat) (a : Int), impl_between_2.g ups downs low high k u d = some a → ∀ m, impl_between_2.g ups downs low high (k + m) u d = some a := by
    intro k a h m
    induction m with
    | zero => exact h
    | succ m ih => exact impl_between_2.mono ups downs low high (k + m) u d a ih
  have e1 := up k a h k'
  have e2 := up k' b h' k
  rw [Nat.add_comm] at e2
  exact Option.some.inj (e1.symm.trans e2)
def impl_between_2.ok (ups downs low high : Int) (key : Value) (c : Int) : Prop := ∃ k u d, key = .agg #[.int .i64 u, .int .i64 d] ∧ impl_between_2.g ups downs low high k u d = some c
theorem impl_between_2.enters : Enters Try.prog 74 := ent_of Try.func74 (by kernel_rfl) rfl
theorem impl_between_2.law : Maps.Keyed Try.prog 47 := Maps.Keyed.of_law (deep_law_laid (by kernel_rfl) (m := 2) (by omega) (of_decide_eq_true (by kernel_rfl)) (by kernel_rfl) (by rw [Try.underlying47]))
theorem impl_between_2.key (u d : Int) (hu : (Lit.int .i64 u).wf = true) (hd : (Lit.int .i64 d).wf = true) : ∃ kl, keyOf Try.prog 47 (.agg #[.int .i64 u, .int .i64 d]) = some kl := by
  obtain ⟨s, hs⟩ : ∃ s, Try.prog.types.size = s + 1 := ⟨Try.prog.types.size - 1, by kernel_rfl⟩
  exact zKey2 (e := 3) Try.underlying47 Try.underlying3 (by kernel_rfl) (by kernel_rfl) (by kernel_rfl) hs hu hd
theorem impl_between_2.zero (w : World) : (zeroValue 3).run Try.prog w = .ok (.int .i64 0) w := by kernel_rfl
set_option maxHeartbeats 2000000 in
set_option maxRecDepth 100000 in
theorem impl_between_2.calls (ups downs low high : Int) (bu bd bl bh bk bf B : Nat) (hne : B ≠ bu ∧ B ≠ bd ∧ B ≠ bl ∧ B ≠ bh ∧ B ≠ bk ∧ B ≠ bf) : ∀ (k : Nat) (u d r : Int) (n : Nat) (w : World) (_ : (Lit.int .i64 u).wf = true) (_ : (Lit.int .i64 d).wf = true)
    (_ : w.cell? ⟨bu, 0, none⟩ = some (.int .i64 ups)) (_ : w.cell? ⟨bd, 0, none⟩ = some (.int .i64 downs)) (_ : w.cell? ⟨bl, 0, none⟩ = some (.int .i64 low)) (_ : w.cell? ⟨bh, 0, none⟩ = some (.int .i64 high)) (_ : w.cell? ⟨bk, 0, none⟩ = some (.map (some B)))
    (_ : w.cell? ⟨bf, 0, none⟩ = some (.func (.func 74) #[] #[.pointer (some ⟨bu, 0, none⟩), .pointer (some ⟨bd, 0, none⟩), .pointer (some ⟨bl, 0, none⟩), .pointer (some ⟨bh, 0, none⟩), .pointer (some ⟨bk, 0, none⟩), .pointer (some ⟨bf, 0, none⟩)]))
    (_ : Memo Try.prog 47 3 w B n (impl_between_2.ok ups downs low high)) (_ : n + 2 ^ k ≤ maxLen) (_ : impl_between_2.g ups downs low high k u d = some r),
    Calls Try.prog 74 #[.int .i64 u, .int .i64 d, .pointer (some ⟨bu, 0, none⟩), .pointer (some ⟨bd, 0, none⟩), .pointer (some ⟨bl, 0, none⟩), .pointer (some ⟨bh, 0, none⟩), .pointer (some ⟨bk, 0, none⟩), .pointer (some ⟨bf, 0, none⟩)] w
      fun e w' => e = .returned (.int .i64 r) ∧ w.grownBy w' (some B) ∧ ∃ n', n' < n + 2 ^ k ∧ Memo Try.prog 47 3 w' B n' (impl_between_2.ok ups downs low high) := by
  have heg : ∀ (args : Array Value) (w : World), (callFunc 74 args).run Try.prog w = .ok (.enter 74 args) w := impl_between_2.enters
  intro k
  induction k with
  | zero => intro u d r n w _ _ _ _ _ _ _ _ _ _ h; simp [impl_between_2.g] at h
  | succ k ih =>
    intro u d r n w hu hd c0 c1 c2 c3 c4 c5 hM hn h
    have hg0 := Aside0.mk h
    have hpos : n < n + 2 ^ (k + 1) := Nat.lt_add_of_pos_right (Nat.pow_pos (by decide))
    unfold impl_between_2.g at h
    by_cases q1 : ups < u
    · rw [if_pos q1] at h
      obtain rfl := Option.some.inj h
      have q1b : decide (ups < u) = true := decide_eq_true q1
      have q1c : decide (u > ups) = true := decide_eq_true q1
      go_enter Try.func74, Try.ntmps74
      go_wp2
      go_ret
      exact ⟨rfl, World.grownBy.refl _ _, n, hpos, hM⟩
    · rw [if_neg q1] at h
      have q1b : decide (ups < u) = false := decide_eq_false q1
      have q1c : decide (u > ups) = false := decide_eq_false q1
      by_cases q2 : downs < d
      · rw [if_pos q2] at h
        obtain rfl := Option.some.inj h
        have q2b : decide (downs < d) = true := decide_eq_true q2
        have q2c : decide (d > downs) = true := decide_eq_true q2
        go_enter Try.func74, Try.ntmps74
        go_wp2
        go_ret
        exact ⟨rfl, World.grownBy.refl _ _, n, hpos, hM⟩
      · rw [if_neg q2] at h
        have q2b : decide (downs < d) = false := decide_eq_false q2
        have q2c : decide (d > downs) = false := decide_eq_false q2
        obtain ⟨t, A0, h⟩ := Option.bind_eq_some_iff.mp h
        have A1 := Aside0.mk A0
        clear A0
        by_cases q3 : t = true
        · subst q3
          rw [if_pos rfl] at h
          by_cases q4 : u = ups ∧ d = downs
          · rw [if_pos q4] at h
            obtain rfl := Option.some.inj h
            obtain ⟨q5, q6⟩ := q4
            subst q5 q6
            go_enter Try.func74, Try.ntmps74
            go_wp2_with (first | (go_at_call 56; refine (impl_in.calls (wrap64 (u - d)) low high true _ A1.out).mono ?_; rintro e w1 ⟨rfl, ⟨nd, rfl⟩⟩))
            go_ret
            exact ⟨rfl, grown_drewN (World.grownBy.refl _ _) _, n, hpos, hM.drewN _⟩
          · rw [if_neg q4] at h
            obtain ⟨kl, hkey⟩ := impl_between_2.key u d hu hd
            have q5 : (u = ups ∧ decide (d = downs) = false) ∨ decide (u = ups) = false := by
              by_cases e : u = ups
              · exact .inl ⟨e, decide_eq_false (fun e2 => q4 ⟨e, e2⟩)⟩
              · exact .inr (decide_eq_false e)
            rcases q5 with ⟨q5, q6⟩ | q5
            · have q7 : (u == ups) = true := beq_iff_eq.mpr q5
              have q8 : (d == downs) = false := beq_eq_false_iff_ne.mpr (of_decide_eq_false q6)
              clear q5 q6
              go_enter Try.func74, Try.ntmps74
              go_upto_region 6 with (first | (go_at_call 56; refine (impl_in.calls (wrap64 (u - d)) low high true _ A1.out).mono ?_; rintro e w1 ⟨rfl, ⟨nd, rfl⟩⟩) | ((with_reducible refine gate_dst (N := 11) rfl ?_); refine box_event ?hg (N := 11) ?hd (cs := #[.int .i64 0, .int .i64 0]) (t := 47) ?hr ?_; (case hd => rfl); (case hg => rfl); (case hr => first | (go_simp; done) | (go_simp; rfl)); intro gb hgb w4 hbox hb; have HBX := Aside0.mk hbox; have HGE := Aside0.mk (Nat.le_of_eq hgb.symm : w.heap.size ≤ gb); have HB4 := Aside0.mk hb; clear hgb hb; have hcz0 : w4.cell? ⟨gb, 0, none⟩ = some (.int .i64 0) := (blk_cell hbox 0).trans rfl; have hcz1 : w4.cell? ⟨gb, 1, none⟩ = some (.int .i64 0) := (blk_cell hbox 1).trans rfl; have hfz0 := blk_frozen hbox 0; have hfz1 := blk_frozen hbox 1; clear hbox) | ((with_reducible refine gate_store (t := 47) (p := 11) rfl ?_); refine store_event (t := 47) (p := 11) (v := ?vo) (w1 := (w4.setCell ⟨gb, 0, none⟩ (.int .i64 u)).setCell ⟨gb, 1, none⟩ (.int .i64 d)) ?hg ?ho ?hn ?hr ?_; (case ho => rfl); (case hg => rfl); (case hn => rfl); (case hr => first | (go_simp; done) | (go_simp; rfl)); intro w5 hw5; have HW5 := Aside0.mk hw5; have HBY := Aside0.mk (show w5.heap[gb]? = some (.cells #[.int .i64 u, .int .i64 d] 47 (0, 0)) by rw [hw5]; exact blk_set (blk_set HBX.out 0 _) 1 _); clear hw5 hcz0 hcz1 hfz0 hfz1; have hcz0 : w5.cell? ⟨gb, 0, none⟩ = some (.int .i64 u) := (blk_cell HBY.out 0).trans rfl; have hcz1 : w5.cell? ⟨gb, 1, none⟩ = some (.int .i64 d) := (blk_cell HBY.out 1).trans rfl))
              have hgr : w.grownBy w5 (some B) := by
                rw [HW5.out]
                exact grown_set (grown_set (grown_below (grown_drewN (World.grownBy.refl _ _) _) HB4.out) (by exact HGE.out) _) (by exact HGE.out) _
              have hBg : B ≠ gb := Nat.ne_of_lt (Nat.lt_of_lt_of_le hM.lt HGE.out)
              have hM5 : Memo Try.prog 47 3 w5 B n (impl_between_2.ok ups downs low high) := by
                rw [HW5.out]
                exact (((hM.drewN _).below HB4.out).setCell hBg _).setCell hBg _
              replace c0 := hgr.cell c0 (fun e => hne.1 (Option.some.inj e).symm)
              replace c1 := hgr.cell c1 (fun e => hne.2.1 (Option.some.inj e).symm)
              replace c2 := hgr.cell c2 (fun e => hne.2.2.1 (Option.some.inj e).symm)
              replace c3 := hgr.cell c3 (fun e => hne.2.2.2.1 (Option.some.inj e).symm)
              replace c4 := hgr.cell c4 (fun e => hne.2.2.2.2.1 (Option.some.inj e).symm)
              replace c5 := hgr.cell c5 (fun e => hne.2.2.2.2.2 (Option.some.inj e).symm)
              have HG5 := Aside0.mk hgr
              clear hgr
              have HM5 := Aside0.mk hM5
              rcases hM5.look (t := 46) impl_between_2.law Try.underlying46 Try.underlying3 (impl_between_2.zero _) hkey with ⟨c, hok, hrun⟩ | hrun
              · obtain ⟨k', u', d', e1, hg1⟩ := hok
                simp only [Value.agg.injEq, Array.mk.injEq, List.cons.injEq, Value.int.injEq, true_and, and_true] at e1
                obtain ⟨rfl, rfl⟩ := e1
                obtain rfl := impl_between_2.one _ _ _ _ hg1 hg0.out
                clear hM5 hM hg1
                go_wp2
                go_ret
                exact ⟨rfl, HG5.out, n, hpos, HM5.out⟩
              · clear hM5 hM
                obtain ⟨a, Ha, h⟩ := Option.bind_eq_some_iff.mp h
                obtain ⟨b, Hb, h⟩ := Option.bind_eq_some_iff.mp h
                obtain rfl := Option.some.inj h
                have HA := Aside0.mk Ha
                have HB := Aside0.mk Hb
                clear Ha Hb h
                go_upto_region 8 with (first | (fail))
                have hn1 : n + 2 ^ k ≤ maxLen := Nat.le_trans (Nat.add_le_add_left (Nat.pow_le_pow_right (by decide) (Nat.le_succ k)) n) hn
                have hn2 : ∀ m, m < n + 2 ^ k → m + 2 ^ k ≤ maxLen := fun m hm => by rw [Nat.pow_succ] at hn; omega
                have hn3 : ∀ m m', m < n + 2 ^ k → m' < m + 2 ^ k → m' < maxLen ∧ m' + 1 < n + 2 ^ (k + 1) := fun m m' hm hm' => by rw [Nat.pow_succ] at hn ⊢; omega
                go_region_held3 (fun w' => w'.cell? ⟨bf, 0, none⟩ = some (.func (.func 74) #[] #[.pointer (some ⟨bu, 0, none⟩), .pointer (some ⟨bd, 0, none⟩), .pointer (some ⟨bl, 0, none⟩), .pointer (some ⟨bh, 0, none⟩), .pointer (some ⟨bk, 0, none⟩), .pointer (some ⟨bf, 0, none⟩)])) (first | exact c5 | exact c5a | exact c5b) (first | (go_at_call 74; have hq_ := HMa; clear hq_; rw [i64_w (d + 1)]; refine (ih u (wrap64 (d + 1)) b na _ hu (wrap64_wf _) ?c0 ?c1 ?c2 ?c3 ?c4 ?c5 ?cM ?cn HB.out).mono ?_; (case c0 => exact c0a); (case c1 => exact c1a); (case c2 => exact c2a); (case c3 => exact c3a); (case c4 => exact c4a); (case c5 => exact c5a); (case cM => exact HMa.out); (case cn => exact hn2 _ HNa.out); rintro e wb ⟨rfl, hgb, nb, hnb, hMb⟩; have hz0b := hgb.cell hz0a (fun e => hBg (Option.some.inj e).symm); have hz1b := hgb.cell hz1a (fun e => hBg (Option.some.inj e).symm); have HNb := Aside0.mk hnb; clear hnb; have c0b := hgb.cell c0a (fun e => hne.1 (Option.some.inj e).symm); have c1b := hgb.cell c1a (fun e => hne.2.1 (Option.some.inj e).symm); have c2b := hgb.cell c2a (fun e => hne.2.2.1 (Option.some.inj e).symm); have c3b := hgb.cell c3a (fun e => hne.2.2.2.1 (Option.some.inj e).symm); have c4b := hgb.cell c4a (fun e => hne.2.2.2.2.1 (Option.some.inj e).symm); have c5b := hgb.cell c5a (fun e => hne.2.2.2.2.2 (Option.some.inj e).symm); have HMb := Aside0.mk hMb; have HGb := Aside0.mk hgb; clear hMb hgb) | (go_at_call 74; rw [i64_w (u + 1)]; refine (ih (wrap64 (u + 1)) d a n _ (wrap64_wf _) hd ?c0 ?c1 ?c2 ?c3 ?c4 ?c5 ?cM ?cn HA.out).mono ?_; (case c0 => exact c0); (case c1 => exact c1); (case c2 => exact c2); (case c3 => exact c3); (case c4 => exact c4); (case c5 => exact c5); (case cM => exact HM5.out); (case cn => exact hn1); rintro e wa ⟨rfl, hga, na, hna, hMa⟩; have hz0a := hga.cell hcz0 (fun e => hBg (Option.some.inj e).symm); have hz1a := hga.cell hcz1 (fun e => hBg (Option.some.inj e).symm); have HNa := Aside0.mk hna; clear hna; have c0a := hga.cell c0 (fun e => hne.1 (Option.some.inj e).symm); have c1a := hga.cell c1 (fun e => hne.2.1 (Option.some.inj e).symm); have c2a := hga.cell c2 (fun e => hne.2.2.1 (Option.some.inj e).symm); have c3a := hga.cell c3 (fun e => hne.2.2.2.1 (Option.some.inj e).symm); have c4a := hga.cell c4 (fun e => hne.2.2.2.2.1 (Option.some.inj e).symm); have c5a := hga.cell c5 (fun e => hne.2.2.2.2.2 (Option.some.inj e).symm); have HMa := Aside0.mk hMa; have HGa := Aside0.mk hga; clear hMa hga))
                rw [i64_w (a + b)]
                clear c0 c1 c2 c3 c5 c0a c1a c2a c3a c4a c5a c0b c1b c2b c3b c5b hcz0 hcz1 hz0a hz1a hrun
                go_wp2_with (first | (at_mapUpdate; refine wpList_memo_put rfl _ _ _ 46 rfl impl_between_2.law Try.underlying46 Try.underlying3 rfl HMb.out (hn3 _ _ HNa.out HNb.out).1 (.agg #[.int .i64 u, .int .i64 d]) kl (wrap64 (a + b)) rfl rfl hkey (wrap64_wf _) ⟨k + 1, u, d, rfl, hg0.out⟩ ?_; intro w9 hM9 hg9; have HM9 := Aside0.mk hM9; have HG9 := Aside0.mk hg9; clear hM9 hg9))
                go_ret
                exact ⟨rfl, (((grown_drew HG5.out).trans HGa.out).trans HGb.out).trans HG9.out, nb + 1, (hn3 _ _ HNa.out HNb.out).2, HM9.out⟩
            · have q7 : (u == ups) = false := beq_eq_false_iff_ne.mpr (of_decide_eq_false q5)
              go_enter Try.func74, Try.ntmps74
              go_upto_region 6 with (first | (go_at_call 56; refine (impl_in.calls (wrap64 (u - d)) low high true _ A1.out).mono ?_; rintro e w1 ⟨rfl, ⟨nd, rfl⟩⟩) | ((with_reducible refine gate_dst (N := 11) rfl ?_); refine box_event ?hg (N := 11) ?hd (cs := #[.int .i64 0, .int .i64 0]) (t := 47) ?hr ?_; (case hd => rfl); (case hg => rfl); (case hr => first | (go_simp; done) | (go_simp; rfl)); intro gb hgb w4 hbox hb; have HBX := Aside0.mk hbox; have HGE := Aside0.mk (Nat.le_of_eq hgb.symm : w.heap.size ≤ gb); have HB4 := Aside0.mk hb; clear hgb hb; have hcz0 : w4.cell? ⟨gb, 0, none⟩ = some (.int .i64 0) := (blk_cell hbox 0).trans rfl; have hcz1 : w4.cell? ⟨gb, 1, none⟩ = some (.int .i64 0) := (blk_cell hbox 1).trans rfl; have hfz0 := blk_frozen hbox 0; have hfz1 := blk_frozen hbox 1; clear hbox) | ((with_reducible refine gate_store (t := 47) (p := 11) rfl ?_); refine store_event (t := 47) (p := 11) (v := ?vo) (w1 := (w4.setCell ⟨gb, 0, none⟩ (.int .i64 u)).setCell ⟨gb, 1, none⟩ (.int .i64 d)) ?hg ?ho ?hn ?hr ?_; (case ho => rfl); (case hg => rfl); (case hn => rfl); (case hr => first | (go_simp; done) | (go_simp; rfl)); intro w5 hw5; have HW5 := Aside0.mk hw5; have HBY := Aside0.mk (show w5.heap[gb]? = some (.cells #[.int .i64 u, .int .i64 d] 47 (0, 0)) by rw [hw5]; exact blk_set (blk_set HBX.out 0 _) 1 _); clear hw5 hcz0 hcz1 hfz0 hfz1; have hcz0 : w5.cell? ⟨gb, 0, none⟩ = some (.int .i64 u) := (blk_cell HBY.out 0).trans rfl; have hcz1 : w5.cell? ⟨gb, 1, none⟩ = some (.int .i64 d) := (blk_cell HBY.out 1).trans rfl))
              have hgr : w.grownBy w5 (some B) := by
                rw [HW5.out]
                exact grown_set (grown_set (grown_below (grown_drewN (World.grownBy.refl _ _) _) HB4.out) (by exact HGE.out) _) (by exact HGE.out) _
              have hBg : B ≠ gb := Nat.ne_of_lt (Nat.lt_of_lt_of_le hM.lt HGE.out)
              have hM5 : Memo Try.prog 47 3 w5 B n (impl_between_2.ok ups downs low high) := by
                rw [HW5.out]
                exact (((hM.drewN _).below HB4.out).setCell hBg _).setCell hBg _
              replace c0 := hgr.cell c0 (fun e => hne.1 (Option.some.inj e).symm)
              replace c1 := hgr.cell c1 (fun e => hne.2.1 (Option.some.inj e).symm)
              replace c2 := hgr.cell c2 (fun e => hne.2.2.1 (Option.some.inj e).symm)
              replace c3 := hgr.cell c3 (fun e => hne.2.2.2.1 (Option.some.inj e).symm)
              replace c4 := hgr.cell c4 (fun e => hne.2.2.2.2.1 (Option.some.inj e).symm)
              replace c5 := hgr.cell c5 (fun e => hne.2.2.2.2.2 (Option.some.inj e).symm)
              have HG5 := Aside0.mk hgr
              clear hgr
              have HM5 := Aside0.mk hM5
              rcases hM5.look (t := 46) impl_between_2.law Try.underlying46 Try.underlying3 (impl_between_2.zero _) hkey with ⟨c, hok, hrun⟩ | hrun
              · obtain ⟨k', u', d', e1, hg1⟩ := hok
                simp only [Value.agg.injEq, Array.mk.injEq, List.cons.injEq, Value.int.injEq, true_and, and_true] at e1
                obtain ⟨rfl, rfl⟩ := e1
                obtain rfl := impl_between_2.one _ _ _ _ hg1 hg0.out
                clear hM5 hM hg1
                go_wp2
                go_ret
                exact ⟨rfl, HG5.out, n, hpos, HM5.out⟩
              · clear hM5 hM
                obtain ⟨a, Ha, h⟩ := Option.bind_eq_some_iff.mp h
                obtain ⟨b, Hb, h⟩ := Option.bind_eq_some_iff.mp h
                obtain rfl := Option.some.inj h
                have HA := Aside0.mk Ha
                have HB := Aside0.mk Hb
                clear Ha Hb h
                go_upto_region 8 with (first | (fail))
                have hn1 : n + 2 ^ k ≤ maxLen := Nat.le_trans (Nat.add_le_add_left (Nat.pow_le_pow_right (by decide) (Nat.le_succ k)) n) hn
                have hn2 : ∀ m, m < n + 2 ^ k → m + 2 ^ k ≤ maxLen := fun m hm => by rw [Nat.pow_succ] at hn; omega
                have hn3 : ∀ m m', m < n + 2 ^ k → m' < m + 2 ^ k → m' < maxLen ∧ m' + 1 < n + 2 ^ (k + 1) := fun m m' hm hm' => by rw [Nat.pow_succ] at hn ⊢; omega
                go_region_held3 (fun w' => w'.cell? ⟨bf, 0, none⟩ = some (.func (.func 74) #[] #[.pointer (some ⟨bu, 0, none⟩), .pointer (some ⟨bd, 0, none⟩), .pointer (some ⟨bl, 0, none⟩), .pointer (some ⟨bh, 0, none⟩), .pointer (some ⟨bk, 0, none⟩), .pointer (some ⟨bf, 0, none⟩)])) (first | exact c5 | exact c5a | exact c5b) (first | (go_at_call 74; have hq_ := HMa; clear hq_; rw [i64_w (d + 1)]; refine (ih u (wrap64 (d + 1)) b na _ hu (wrap64_wf _) ?c0 ?c1 ?c2 ?c3 ?c4 ?c5 ?cM ?cn HB.out).mono ?_; (case c0 => exact c0a); (case c1 => exact c1a); (case c2 => exact c2a); (case c3 => exact c3a); (case c4 => exact c4a); (case c5 => exact c5a); (case cM => exact HMa.out); (case cn => exact hn2 _ HNa.out); rintro e wb ⟨rfl, hgb, nb, hnb, hMb⟩; have hz0b := hgb.cell hz0a (fun e => hBg (Option.some.inj e).symm); have hz1b := hgb.cell hz1a (fun e => hBg (Option.some.inj e).symm); have HNb := Aside0.mk hnb; clear hnb; have c0b := hgb.cell c0a (fun e => hne.1 (Option.some.inj e).symm); have c1b := hgb.cell c1a (fun e => hne.2.1 (Option.some.inj e).symm); have c2b := hgb.cell c2a (fun e => hne.2.2.1 (Option.some.inj e).symm); have c3b := hgb.cell c3a (fun e => hne.2.2.2.1 (Option.some.inj e).symm); have c4b := hgb.cell c4a (fun e => hne.2.2.2.2.1 (Option.some.inj e).symm); have c5b := hgb.cell c5a (fun e => hne.2.2.2.2.2 (Option.some.inj e).symm); have HMb := Aside0.mk hMb; have HGb := Aside0.mk hgb; clear hMb hgb) | (go_at_call 74; rw [i64_w (u + 1)]; refine (ih (wrap64 (u + 1)) d a n _ (wrap64_wf _) hd ?c0 ?c1 ?c2 ?c3 ?c4 ?c5 ?cM ?cn HA.out).mono ?_; (case c0 => exact c0); (case c1 => exact c1); (case c2 => exact c2); (case c3 => exact c3); (case c4 => exact c4); (case c5 => exact c5); (case cM => exact HM5.out); (case cn => exact hn1); rintro e wa ⟨rfl, hga, na, hna, hMa⟩; have hz0a := hga.cell hcz0 (fun e => hBg (Option.some.inj e).symm); have hz1a := hga.cell hcz1 (fun e => hBg (Option.some.inj e).symm); have HNa := Aside0.mk hna; clear hna; have c0a := hga.cell c0 (fun e => hne.1 (Option.some.inj e).symm); have c1a := hga.cell c1 (fun e => hne.2.1 (Option.some.inj e).symm); have c2a := hga.cell c2 (fun e => hne.2.2.1 (Option.some.inj e).symm); have c3a := hga.cell c3 (fun e => hne.2.2.2.1 (Option.some.inj e).symm); have c4a := hga.cell c4 (fun e => hne.2.2.2.2.1 (Option.some.inj e).symm); have c5a := hga.cell c5 (fun e => hne.2.2.2.2.2 (Option.some.inj e).symm); have HMa := Aside0.mk hMa; have HGa := Aside0.mk hga; clear hMa hga))
                rw [i64_w (a + b)]
                clear c0 c1 c2 c3 c5 c0a c1a c2a c3a c4a c5a c0b c1b c2b c3b c5b hcz0 hcz1 hz0a hz1a hrun
                go_wp2_with (first | (at_mapUpdate; refine wpList_memo_put rfl _ _ _ 46 rfl impl_between_2.law Try.underlying46 Try.underlying3 rfl HMb.out (hn3 _ _ HNa.out HNb.out).1 (.agg #[.int .i64 u, .int .i64 d]) kl (wrap64 (a + b)) rfl rfl hkey (wrap64_wf _) ⟨k + 1, u, d, rfl, hg0.out⟩ ?_; intro w9 hM9 hg9; have HM9 := Aside0.mk hM9; have HG9 := Aside0.mk hg9; clear hM9 hg9))
                go_ret
                exact ⟨rfl, (((grown_drew HG5.out).trans HGa.out).trans HGb.out).trans HG9.out, nb + 1, (hn3 _ _ HNa.out HNb.out).2, HM9.out⟩
        · replace q3 := Bool.eq_false_iff.mpr q3
          subst q3
          rw [if_neg (show ¬ (false = true) by decide)] at h
          obtain rfl := Option.some.inj h
          go_enter Try.func74, Try.ntmps74
          go_wp2_with (first | (go_at_call 56; refine (impl_in.calls (wrap64 (u - d)) low high false _ A1.out).mono ?_; rintro e w1 ⟨rfl, ⟨nd, rfl⟩⟩))
          go_ret
          exact ⟨rfl, grown_drewN (World.grownBy.refl _ _) _, n, hpos, hM.drewN _⟩
/-- What the function value that impl.between hands back leans on. -/
def impl_between_2.Env (w : World) (base : Nat) (ups downs low high : Int) (n : Nat) (lb : Array Value) : Prop := ∃ bu bd bl bh bk bf B : Nat, (B ≠ bu ∧ B ≠ bd ∧ B ≠ bl ∧ B ≠ bh ∧ B ≠ bk ∧ B ≠ bf) ∧ base ≤ B ∧ lb = #[.pointer (some ⟨bu, 0, none⟩), .pointer (some ⟨bd, 0, none⟩), .pointer (some ⟨bl, 0, none⟩), .pointer (some ⟨bh, 0, none⟩), .pointer (some ⟨bk, 0, none⟩), .pointer (some ⟨bf, 0, none⟩)] ∧
  w.cell? ⟨bu, 0, none⟩ = some (.int .i64 ups) ∧ w.cell? ⟨bd, 0, none⟩ = some (.int .i64 downs) ∧ w.cell? ⟨bl, 0, none⟩ = some (.int .i64 low) ∧ w.cell? ⟨bh, 0, none⟩ = some (.int .i64 high) ∧ w.cell? ⟨bk, 0, none⟩ = some (.map (some B)) ∧
  w.cell? ⟨bf, 0, none⟩ = some (.func (.func 74) #[] #[.pointer (some ⟨bu, 0, none⟩), .pointer (some ⟨bd, 0, none⟩), .pointer (some ⟨bl, 0, none⟩), .pointer (some ⟨bh, 0, none⟩), .pointer (some ⟨bk, 0, none⟩), .pointer (some ⟨bf, 0, none⟩)]) ∧ Memo Try.prog 47 3 w B n (impl_between_2.ok ups downs low high)
theorem impl_between_2.apply {w : World} {base : Nat} {ups downs low high : Int} {n : Nat} {lb : Array Value} (hE : impl_between_2.Env w base ups downs low high n lb) (hb : base ≤ w.heap.size) (k : Nat) (hn : n + 2 ^ k ≤ maxLen) (u d r : Int) (hu : (Lit.int .i64 u).wf = true) (hd : (Lit.int .i64 d).wf = true) (h : impl_between_2.g ups downs low high k u d = some r) :
    Calls Try.prog 74 (#[.int .i64 u, .int .i64 d] ++ lb) w fun e w' => e = .returned (.int .i64 r) ∧ Below base w w' := by
  obtain ⟨bu, bd, bl, bh, bk, bf, B, hne, hB, rfl, c0, c1, c2, c3, c4, c5, hM⟩ := hE
  refine (impl_between_2.calls ups downs low high bu bd bl bh bk bf B hne k u d r n w hu hd c0 c1 c2 c3 c4 c5 hM hn h).mono ?_
  rintro e w' ⟨rfl, hg, _⟩
  exact ⟨rfl, (Below.refl _ _).grown hg hb (fun k e => by injection e with e; omega)⟩

/-! ### impl_between: function 71 -/
set_option maxHeartbeats 2000000 in
set_option maxRecDepth 100000 in
theorem impl_between.calls (ups downs low high : Int) (w : World) :
    Calls Try.prog 71 #[.int .i64 ups, .int .i64 downs, .int .i64 low, .int .i64 high] w fun e w' => ∃ lb, e = .returned (.func (.func 74) #[] lb) ∧ impl_between_2.Env w' w.heap.size ups downs low high 0 lb ∧ Below w.heap.size w w' := by
  have hmf : ∀ (fn : Fn) (first cap : Array Value) (w : World), (Instr.makeFunc fn first cap).run Try.prog w = .ok (.func fn first cap) w := fun _ _ _ _ => rfl
  have hmm := @run_makeMap Try.prog
  have hsf := fun (x : Addr) (fn : Fn) (a b : Array Value) (W : World) => run_store Try.prog W x (.func fn a b) .plain rfl
  go_enter Try.func71, Try.ntmps71
  go_wp2
  go_ret
  refine ⟨_, rfl, ?_, by repeat (first | exact Below.refl _ _ | apply below_alloc)⟩
  refine ⟨w.heap.size, w.heap.size + 1, w.heap.size + 1 + 1, w.heap.size + 1 + 1 + 1, w.heap.size + 1 + 1 + 1 + 1 + 1, w.heap.size + 1 + 1 + 1 + 1 + 1 + 1, w.heap.size + 1 + 1 + 1 + 1, by omega, by omega, rfl, ?_, ?_, ?_, ?_, ?_, ?_, ?_⟩
  iterate 6 (focus (repeat (first | exact cell_alloc_new _ _ _ (by simp) | refine cell_alloc_old ?_ _)))
  refine Memo.alloc (Memo.alloc ?_ _) _
  have hh := Memo.made (P := Try.prog) (K := 47) (E := 3) (ok := impl_between_2.ok ups downs low high) ((((w.alloc (Obj.cells #[Value.int IntKind.i64 ups] 3)).alloc (Obj.cells #[Value.int IntKind.i64 downs] 3)).alloc (Obj.cells #[Value.int IntKind.i64 low] 3)).alloc (Obj.cells #[Value.int IntKind.i64 high] 3))
  simpa only [World.size_alloc] using hh

/-! ### impl_byHeight: function 55 -/
def impl_byHeight.f (_k : Nat) (n h : Int) : Option Int := (impl_between_2.g n n 0 h 62 0 0).bind fun a => (impl_between_2.g n n 0 (wrap64 (h - 1)) 62 0 0).bind fun b => some (wrap64 (a - b))
theorem impl_byHeight.mono : ∀ n h k, LeO (impl_byHeight.f k n h) (impl_byHeight.f (k + 1) n h) := fun _ _ _ => LeO.refl _
set_option maxHeartbeats 2000000 in
set_option maxRecDepth 100000 in
theorem impl_byHeight.calls (k : Nat) (n x r : Int) (w : World) (h : impl_byHeight.f k n x = some r) :
    Calls Try.prog 55 #[.int .i64 n, .int .i64 x] w fun e w' => e = .returned (.int .i64 r) ∧ Below w.heap.size w w' := by
  have heg : ∀ (args : Array Value) (w : World), (callFunc 74 args).run Try.prog w = .ok (.enter 74 args) w := impl_between_2.enters
  obtain ⟨a, A0, h⟩ := Option.bind_eq_some_iff.mp h
  obtain ⟨b, B0, h⟩ := Option.bind_eq_some_iff.mp h
  obtain rfl := Option.some.inj h
  have HA := Aside0.mk A0
  have HB := Aside0.mk B0
  clear A0 B0 h
  go_enter Try.func55, Try.ntmps55
  go_wp2_with (first | (go_at_call 71; (first | (have hq_ := HB2; clear hq_; refine (impl_between.calls n n 0 (wrap64 (x - 1)) _).mono ?_; rintro e w3 ⟨lb3, rfl, hE3, hb3⟩; have HE3 := Aside0.mk hE3; have HB3 := Aside0.mk hb3; clear hE3 hb3) | (refine (impl_between.calls n n 0 x _).mono ?_; rintro e w1 ⟨lb1, rfl, hE1, hb1⟩; have HE1 := Aside0.mk hE1; have HB1 := Aside0.mk hb1; clear hE1 hb1))) | (go_at_fn 74; (first | (have hq_ := HB3; clear hq_; refine (impl_between_2.apply HE3.out (below_size HB3.out) 62 (by decide) 0 0 b (by decide) (by decide) HB.out).mono ?_; rintro e w4 ⟨rfl, hb4⟩; have HB4 := Aside0.mk (below_step HB2.out (HB3.out.trans hb4)); clear hb4) | (refine (impl_between_2.apply HE1.out (below_size HB1.out) 62 (by decide) 0 0 a (by decide) (by decide) HA.out).mono ?_; rintro e w2 ⟨rfl, hb2⟩; have HB2 := Aside0.mk (HB1.out.trans hb2); clear hb2))))
  go_ret
  exact ⟨rfl, HB4.out⟩

/-! ### impl_CountByHeight_1: function 66 -/
def impl_CountByHeight_1.f (k : Nat) (n x : Int) : Option Int := (impl_byHeight.f k n x).bind fun t => some t
theorem impl_CountByHeight_1.mono : ∀ n x k, LeO (impl_CountByHeight_1.f k n x) (impl_CountByHeight_1.f (k + 1) n x) := fun n x k => LeO.bind (impl_byHeight.mono _ _ _) fun _ => LeO.refl _
set_option maxHeartbeats 2000000 in
set_option maxRecDepth 100000 in
theorem impl_CountByHeight_1.calls (k : Nat) (B : Nat) (n x r : Int) (w : World) (hc : w.cell? ⟨B, 0, none⟩ = some (.int .i64 n)) (h : impl_CountByHeight_1.f k n x = some r) :
    Calls Try.prog 66 #[.int .i64 x, .pointer (some ⟨B, 0, none⟩)] w fun e w' => e = .returned (.int .i64 r) ∧ Below w.heap.size w w' := by
  have HB := Aside0.mk (Below.refl w.heap.size w)
  obtain ⟨t, A0, h1⟩ := Option.bind_eq_some_iff.mp h
  obtain rfl := Option.some.inj h1
  clear h h1
  have A1 := Aside0.mk A0
  clear A0
  go_enter Try.func66, Try.ntmps66
  go_wp2_with (first | ((with_reducible refine gate_callee (f := 55) rfl ?_); refine goesL_ (some 6) rfl rfl Try.func55 (by kernel_rfl) rfl #[.int .i64 n, .int .i64 x] rfl (by (try simp only [List.map_toArray, List.map_cons, List.map_nil]); first | done | rfl | (simp only [List.length_drop, List.length_take]; rfl)) ?_; (with_reducible refine (impl_byHeight.calls k n x t _ A1.out).mono ?_); rintro e w' ⟨rfl, hb⟩; refine ⟨_, rfl, ?_⟩; have n1_ := Aside0.mk (below_step (by repeat (first | (with_reducible first | exact HB.out | apply below_alloc | apply pw_below_drewN | apply below_drew1) | exact HB.out)) hb); clear HB; have HB := n1_; clear n1_; clear hb))
  go_ret
  exact ⟨by first | rfl | (simp; done) | (simp [*]; done), (by repeat (first | (with_reducible first | exact HB.out | apply below_alloc | apply pw_below_drewN | apply below_drew1) | exact HB.out))⟩

/-! ### impl_CountByHeight: function 41 -/
def impl_CountByHeight.f (k : Nat) (a0 : Int) : Option (List Int × Bool) := (impl_isPairs.f a0).bind fun t => (if t = true then ((impl_numbers.f k a0 (fun x => impl_CountByHeight_1.f k a0 x)).bind fun l => (some (l, true))) else (some (([] : List Int), false)))
theorem impl_CountByHeight.mono : ∀ a0 k, LeO (impl_CountByHeight.f k a0) (impl_CountByHeight.f (k + 1) a0) := by
  intro a0 k
  unfold impl_CountByHeight.f
  exact LeO.bind (LeO.refl _) fun _ => LeO.ite (LeO.bind (impl_numbers.mono (fun x => impl_CountByHeight_1.mono _ _ _) _ _) fun _ => LeO.refl _) (LeO.refl _)
set_option maxHeartbeats 2000000 in
set_option maxRecDepth 100000 in
theorem impl_CountByHeight.calls (k : Nat) (a0 : Int) (r1 : List Int) (r2 : Bool) (w : World) (h : impl_CountByHeight.f k a0 = some (r1, r2)) :
    Calls Try.prog 41 #[.int .i64 a0] w fun e w' => ∃ v0_ : Value, e = .returned (.tuple #[v0_, .bool r2]) ∧ Kd.R (Kd.int .i64) 3 w' w.heap.size (fun _ => True) v0_ r1 ∧ Below w.heap.size w w' := by
  have HB := Aside0.mk (Below.refl w.heap.size w)
  have hmf : ∀ (fn : Fn) (first cap : Array Value) (w : World), (Instr.makeFunc fn first cap).run Try.prog w = .ok (.func fn first cap) w := fun _ _ _ _ => rfl
  have H := h
  clear h
  unfold impl_CountByHeight.f at H
  replace H := Option.bind_eq_some_iff.mp H
  obtain ⟨t159, A20, H⟩ := H
  have A2 := Aside0.mk A20
  clear A20
  by_cases c3 : t159 = true
  · subst c3
    rw [if_pos rfl] at H
    replace H := Option.bind_eq_some_iff.mp H
    obtain ⟨l, A30, H⟩ := H
    have A3 := Aside0.mk A30
    clear A30
    simp only [Option.some.injEq, Prod.mk.injEq] at H
    obtain ⟨rfl, rfl⟩ := H
    go_enter Try.func41, Try.ntmps41
    go_wp2_with (first | ((with_reducible refine gate_callee (f := 48) rfl ?_); refine goesL_ (some 5) rfl rfl Try.func48 (by kernel_rfl) rfl #[.int .i64 a0] rfl (by (try simp only [List.map_toArray, List.map_cons, List.map_nil]); first | done | rfl | (simp only [List.length_drop, List.length_take]; rfl)) ?_; (with_reducible refine (impl_isPairs.calls a0 true _ A2.out).mono ?_); rintro e w' ⟨rfl, ⟨nd, rfl⟩⟩; refine ⟨_, rfl, ?_⟩) | ((with_reducible refine gate_callee (f := 57) rfl ?_); refine goesL_ (some 9) rfl rfl Try.func57 (by kernel_rfl) rfl #[.int .i64 a0, .func (.func 66) #[] #[.pointer (some ⟨w.heap.size, 0, none⟩)]] rfl (by (try simp only [List.map_toArray, List.map_cons, List.map_nil]); first | done | rfl | (simp only [List.length_drop, List.length_take]; rfl)) ?_; refine (impl_numbers.calls k a0 66 #[.pointer (some ⟨w.heap.size, 0, none⟩)] (fun x => impl_CountByHeight_1.f k a0 x) l _ (ent_of Try.func66 (by kernel_rfl) rfl) ?hof A3.out).mono ?_; (case hof => intro x t W hb ht; exact (impl_CountByHeight_1.calls k w.heap.size a0 x t W ((hb.cell (p := ⟨w.heap.size, 0, none⟩) (by simp)).trans (by simp)) ht).mono fun e w' ⟨he, hd⟩ => ⟨he, hd⟩); rintro e w5 ⟨v0, rfl, hr, hb⟩; refine ⟨_, rfl, ?_⟩; have n0_ := Aside0.mk (Kd.R_lower hr (below_size (by repeat (first | (with_reducible first | exact HB.out | apply below_alloc | apply pw_below_drewN | apply below_drew1) | exact HB.out)))); have n1_ := Aside0.mk (below_step (by repeat (first | (with_reducible first | exact HB.out | apply below_alloc | apply pw_below_drewN | apply below_drew1) | exact HB.out)) hb); clear HB; have HO := n0_; have HB := n1_; clear n0_ n1_; clear hr hb))
    go_ret2
    exact ⟨_, by first | rfl | (simp; done) | (simp [*]; done), by (with_reducible repeat (first | apply Kd.R_alloc | apply Kd.R_drewN | apply Kd.R_drew)); exact HO.out, (by repeat (first | (with_reducible first | exact HB.out | apply below_alloc | apply pw_below_drewN | apply below_drew1) | exact HB.out))⟩
  · replace c3 := Bool.eq_false_iff.mpr c3
    subst c3
    rw [if_neg (show ¬ (false = true) by decide)] at H
    simp only [Option.some.injEq, Prod.mk.injEq] at H
    obtain ⟨rfl, rfl⟩ := H
    go_enter Try.func41, Try.ntmps41
    go_wp2_with (first | ((with_reducible refine gate_callee (f := 48) rfl ?_); refine goesL_ (some 5) rfl rfl Try.func48 (by kernel_rfl) rfl #[.int .i64 a0] rfl (by (try simp only [List.map_toArray, List.map_cons, List.map_nil]); first | done | rfl | (simp only [List.length_drop, List.length_take]; rfl)) ?_; (with_reducible refine (impl_isPairs.calls a0 false _ A2.out).mono ?_); rintro e w' ⟨rfl, ⟨nd, rfl⟩⟩; refine ⟨_, rfl, ?_⟩))
    go_ret2
    exact ⟨_, by first | rfl | (simp; done) | (simp [*]; done), Kd.R_nil _ _ _ _ _, (by repeat (first | (with_reducible first | exact HB.out | apply below_alloc | apply pw_below_drewN | apply below_drew1) | exact HB.out))⟩

end Go.Proofs.Ytjammocipljgfaa.QFnExactCountByHeight
