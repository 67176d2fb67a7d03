/- Written by a program of this repo (xprint: a turned copy of the kit's print, with our own templates in it); Lean checks all of it. -/
import Derived.Test.YtjjkglfpcdedlabDoorQFnGoodPathsSortedx0
import Derived.Test.YtjjkglfpcdedlabDoorQFnGoodPathsSortedx1
import Derived.Test.YtjjkglfpcdedlabDoorQFnGoodPathsSortedx2
import Derived.Test.YtjjkglfpcdedlabDoorQFnGoodPathsSortedx3
namespace Go.Proofs.YtjjkglfpcdedlabDoor.QFnGoodPathsSorted
open Go.RowKit Go.Proofs.YtjjkglfpcdedlabDoorZ Go.Proofs.YtjjkglfpcdedlabDoorZm Go.Maps Go.Proofs.YtjjkglfpcdedlabDoorZc Go.Maps Go.Proofs.YtjjkglfpcdedlabDoorW.PrintWords Go.Proofs.YtjjkglfpcdedlabDoorW.PrintLast Go.Proofs.YtjjkglfpcdedlabDoorW.PrintMore
attribute [local go_sem] max2_int min2_int max_two min_two max_three min_three max_four min_four   -- for this text's walks alone
set_option linter.unusedVariables false
set_option linter.unusedSimpArgs false

/-! ### spec_CountByHeight: function 9 -/
def spec_CountByHeight.f (k : Nat) (a0 : Int) : Option (List Int × Bool) := (spec_reGood.f a0).bind fun t167 => (if t167 = true then ((spec_reHeights.f k a0).bind fun t168 => (some (t168, true))) else (some (([] : List Int), false)))
theorem spec_CountByHeight.mono : ∀ a0 k, LeO (spec_CountByHeight.f k a0) (spec_CountByHeight.f (k + 1) a0) := by
  intro a0 k
  unfold spec_CountByHeight.f
  repeat' first
      | (with_reducible exact spec_reHeights.mono _ _)
      | (with_reducible exact LeO.refl _)
      | (with_reducible exact LeO.none _)
      | (with_reducible refine LeO.ite ?_ ?_)
      | (with_reducible refine LeO.bind ?_ (fun _ => ?_))
      | exact spec_reHeights.mono _ _
      | exact LeO.none _
      | refine LeO.ite ?_ ?_
      | refine LeO.bind ?_ (fun _ => ?_)
set_option maxHeartbeats 8000000 in
set_option maxRecDepth 100000 in
theorem spec_CountByHeight.calls (k : Nat) (a0 : Int) (r1 : List Int) (r2 : Bool) (w : World) (h : spec_CountByHeight.f k a0 = some (r1, r2)) :
    Calls Tryd.prog 9 #[.int .i64 a0] w fun e w' => ∃ v0_ : Value, e = .returned (.tuple #[v0_, .bool r2]) ∧ Kd.R (Kd.int .i64) 3 w' w.heap.size (fun _ => True) v0_ r1 ∧ Below w.heap.size w w' := by
  have HB := Aside0.mk (Below.refl w.heap.size w)
  have H : ((spec_reGood.f a0).bind fun t167 => (if t167 = true then ((spec_reHeights.f k a0).bind fun t168 => (some (t168, true))) else (some (([] : List Int), false)))) = some (r1, r2) := h
  clear h
  replace H := Option.bind_eq_some_iff.mp H
  obtain ⟨t167, A20, H⟩ := H
  replace H : (if t167 = true then ((spec_reHeights.f k a0).bind fun t168 => (some (t168, true))) else (some (([] : List Int), false))) = some (r1, r2) := H
  have A2 := Aside0.mk A20
  clear A20
  by_cases c3 : t167 = true
  · subst c3
    have H1 : ((spec_reHeights.f k a0).bind fun t168 => (some (t168, true))) = some (r1, r2) := by rw [if_pos rfl] at H; exact H
    clear H
    have H := H1
    clear H1
    replace H := Option.bind_eq_some_iff.mp H
    obtain ⟨t168, A40, H⟩ := H
    replace H : (some (t168, true)) = some (r1, r2) := H
    have A4 := Aside0.mk A40
    clear A40
    simp only [Option.some.injEq, Prod.mk.injEq] at H
    obtain ⟨rfl, rfl⟩ := H
    go_enter Tryd.func9, Tryd.ntmps9
    go_wp2_with (first | ((with_reducible refine gate_callee (f := 37) rfl ?_); refine goesL_ (some 5) rfl rfl Tryd.func37 (by kernel_rfl) rfl #[.int .i64 a0] rfl (by (try simp only [List.map_toArray, List.map_cons, List.map_nil]); first | done | rfl | (simp only [List.length_drop, List.length_take]; rfl)) ?_; (with_reducible refine (spec_reGood.calls a0 true _ A2.out).mono ?_); rintro e w' ⟨rfl, ⟨nd, rfl⟩⟩; refine ⟨_, rfl, ?_⟩) | ((with_reducible refine gate_callee (f := 41) rfl ?_); refine goesL_ (some 8) rfl rfl Tryd.func41 (by kernel_rfl) rfl #[.int .i64 a0] rfl (by (try simp only [List.map_toArray, List.map_cons, List.map_nil]); first | done | rfl | (simp only [List.length_drop, List.length_take]; rfl)) ?_; (with_reducible refine (spec_reHeights.calls k a0 t168 _ A4.out).mono ?_); rintro e w5 ⟨v169, rfl, ho0, hb⟩; refine ⟨_, rfl, ?_⟩; have n0_ := Aside0.mk (Kd.R_lower ho0 (below_size (by repeat (first | (with_reducible first | exact HB.out | apply below_alloc | apply pw_below_drewN | apply below_drew1) | exact HB.out)))); have n1_ := Aside0.mk (below_step (by repeat (first | (with_reducible first | exact HB.out | apply below_alloc | apply pw_below_drewN | apply below_drew1) | exact HB.out)) hb); clear HB; have HO170 := n0_; have HB := n1_; clear n0_ n1_; (try clear hb); (try clear hb2); (try clear hk); (try clear hi); (try clear ho0)))
    go_ret2
    exact ⟨_, by first | rfl | (simp [errW_none, errW_some] <;> rfl) | (simp [*, errW_none, errW_some] <;> rfl), by (with_reducible repeat (first | apply Kd.R_alloc | apply Kd.R_drewN | apply Kd.R_drew)); exact HO170.out, by repeat (first | (with_reducible first | exact HB.out | apply below_alloc | apply pw_below_drewN | apply below_drew1) | exact HB.out)⟩
  · replace c3 := Bool.eq_false_iff.mpr c3
    subst c3
    have H1 : (some (([] : List Int), false)) = some (r1, r2) := by rw [if_neg (show ¬ (false = true) by decide)] at H; exact H
    clear H
    have H := H1
    clear H1
    simp only [Option.some.injEq, Prod.mk.injEq] at H
    obtain ⟨rfl, rfl⟩ := H
    go_enter Tryd.func9, Tryd.ntmps9
    go_wp2_with (first | ((with_reducible refine gate_callee (f := 37) rfl ?_); refine goesL_ (some 5) rfl rfl Tryd.func37 (by kernel_rfl) rfl #[.int .i64 a0] rfl (by (try simp only [List.map_toArray, List.map_cons, List.map_nil]); first | done | rfl | (simp only [List.length_drop, List.length_take]; rfl)) ?_; (with_reducible refine (spec_reGood.calls a0 false _ A2.out).mono ?_); rintro e w' ⟨rfl, ⟨nd, rfl⟩⟩; refine ⟨_, rfl, ?_⟩))
    go_ret2
    exact ⟨_, by first | rfl | (simp [errW_none, errW_some] <;> rfl) | (simp [*, errW_none, errW_some] <;> rfl), by first | exact Kd.R_nil _ _ _ _ _ | exact Kd.N_nil _ _ _ _ _ | exact Kd.V_nil _ _ _ _ _ | exact Kd.Q_nil _ _ _ _ _ | exact Kd.S_nil _ _ _ _ _, by repeat (first | (with_reducible first | exact HB.out | apply below_alloc | apply pw_below_drewN | apply below_drew1) | exact HB.out)⟩

/-! ### impl_byReturns: function 43 -/
def impl_byReturns.f (k : Nat) (a0 : Int) (a1 : Int) : Option (Int) := if a0 = 0 then (some 1) else (if a1 = 0 then (some 0) else ((impl_choose.f k (wrap64 ((wrap64 (2 * a0)) - a1)) a0).bind fun t171 => (if (wrap64 ((wrap64 (2 * a0)) - a1)) = 0 then (none) else (some (wrap64 (Int.tdiv (wrap64 (a1 * t171)) (wrap64 ((wrap64 (2 * a0)) - a1))))))))
theorem impl_byReturns.mono : ∀ a0 a1 k, LeO (impl_byReturns.f k a0 a1) (impl_byReturns.f (k + 1) a0 a1) := by
  intro a0 a1 k
  unfold impl_byReturns.f
  repeat' first
      | (with_reducible exact impl_choose.mono _ _ _)
      | (with_reducible exact LeO.refl _)
      | (with_reducible exact LeO.none _)
      | (with_reducible refine LeO.ite ?_ ?_)
      | (with_reducible refine LeO.bind ?_ (fun _ => ?_))
      | exact impl_choose.mono _ _ _
      | exact LeO.none _
      | refine LeO.ite ?_ ?_
      | refine LeO.bind ?_ (fun _ => ?_)
set_option maxHeartbeats 8000000 in
set_option maxRecDepth 100000 in
theorem impl_byReturns.calls (k : Nat) (a0 : Int) (a1 : Int) (r : Int) (w : World) (h : impl_byReturns.f k a0 a1 = some r) :
    Calls Tryd.prog 43 #[.int .i64 a0, .int .i64 a1] w fun e w' => e = .returned (.int .i64 r) ∧ Drawn0 w w' := by
  have H : (if a0 = 0 then (some 1) else (if a1 = 0 then (some 0) else ((impl_choose.f k (wrap64 ((wrap64 (2 * a0)) - a1)) a0).bind fun t171 => (if (wrap64 ((wrap64 (2 * a0)) - a1)) = 0 then (none) else (some (wrap64 (Int.tdiv (wrap64 (a1 * t171)) (wrap64 ((wrap64 (2 * a0)) - a1))))))))) = some r := h
  clear h
  by_cases c3 : a0 = 0
  · rw [if_pos c3] at H
    have c3b0 : (a0 == 0) = true := beq_iff_eq.mpr c3
    have c3b1 : (a0 != 0) = false := bne_eq_false_iff_eq.mpr c3
    clear c3
    obtain rfl := Option.some.inj H
    go_enter Tryd.func43, Tryd.ntmps43
    go_wp2
    go_ret
    exact ⟨by first | rfl | (simp; done) | (simp [*]; done), by repeat (first | exact Drawn0.refl _ | apply Drawn0.step)⟩
  · rw [if_neg c3] at H
    have c3b0 : (a0 == 0) = false := beq_eq_false_iff_ne.mpr c3
    have c3b1 : (a0 != 0) = true := bne_iff_ne.mpr c3
    by_cases c4 : a1 = 0
    · rw [if_pos c4] at H
      have c4b0 : (a1 == 0) = true := beq_iff_eq.mpr c4
      have c4b1 : (a1 != 0) = false := bne_eq_false_iff_eq.mpr c4
      clear c4
      obtain rfl := Option.some.inj H
      go_enter Tryd.func43, Tryd.ntmps43
      go_wp2
      go_ret
      exact ⟨by first | rfl | (simp; done) | (simp [*]; done), by repeat (first | exact Drawn0.refl _ | apply Drawn0.step)⟩
    · rw [if_neg c4] at H
      have c4b0 : (a1 == 0) = false := beq_eq_false_iff_ne.mpr c4
      have c4b1 : (a1 != 0) = true := bne_iff_ne.mpr c4
      replace H := Option.bind_eq_some_iff.mp H
      obtain ⟨t171, A50, H⟩ := H
      replace H : (if (wrap64 ((wrap64 (2 * a0)) - a1)) = 0 then (none) else (some (wrap64 (Int.tdiv (wrap64 (a1 * t171)) (wrap64 ((wrap64 (2 * a0)) - a1)))))) = some r := H
      have A5 := Aside0.mk A50
      clear A50
      by_cases c6 : (wrap64 ((wrap64 (2 * a0)) - a1)) = 0
      · rw [if_pos c6] at H
        exact absurd H (by simp)
      · rw [if_neg c6] at H
        have c6b0 : ((wrap64 ((wrap64 (2 * a0)) - a1)) == 0) = false := beq_eq_false_iff_ne.mpr c6
        have c6b1 : ((wrap64 ((wrap64 (2 * a0)) - a1)) != 0) = true := bne_iff_ne.mpr c6
        obtain rfl := Option.some.inj H
        go_enter Tryd.func43, Tryd.ntmps43
        go_wp2_with (first | ((with_reducible refine gate_callee (f := 36) rfl ?_); refine goesL_ (some 17) rfl rfl Tryd.func36 (by kernel_rfl) rfl #[.int .i64 (wrap64 ((wrap64 (2 * a0)) - a1)), .int .i64 a0] rfl (by (try simp only [List.map_toArray, List.map_cons, List.map_nil]); first | done | rfl | (simp only [List.length_drop, List.length_take]; rfl)) ?_; (with_reducible refine (impl_choose.calls k (wrap64 ((wrap64 (2 * a0)) - a1)) a0 t171 _ A5.out).mono ?_); rintro e w' ⟨rfl, ⟨nd, rfl⟩⟩; refine ⟨_, rfl, ?_⟩))
        go_ret
        exact ⟨by first | rfl | (simp; done) | (simp [*]; done), by repeat (first | exact Drawn0.refl _ | apply Drawn0.step)⟩

/-! ### impl_CountByReturns_1: function 42 -/
def impl_CountByReturns_1.f (k : Nat) (n x : Int) : Option Int := (impl_byReturns.f k n x).bind fun t => some t
theorem impl_CountByReturns_1.mono : ∀ n x k, LeO (impl_CountByReturns_1.f k n x) (impl_CountByReturns_1.f (k + 1) n x) := fun n x k => LeO.bind (impl_byReturns.mono _ _ _) fun _ => LeO.refl _
set_option maxHeartbeats 2000000 in
set_option maxRecDepth 100000 in
theorem impl_CountByReturns_1.calls (k : Nat) (B : Nat) (n x r : Int) (w : World) (hc : w.cell? ⟨B, 0, none⟩ = some (.int .i64 n)) (h : impl_CountByReturns_1.f k n x = some r) :
    Calls Tryd.prog 42 #[.int .i64 x, .pointer (some ⟨B, 0, none⟩)] w fun e w' => e = .returned (.int .i64 r) ∧ Drawn0 w w' := by
  have HB := Aside0.mk (Below.refl w.heap.size w)
  obtain ⟨t, A0, h1⟩ := Option.bind_eq_some_iff.mp h
  obtain rfl := Option.some.inj h1
  clear h h1
  have A1 := Aside0.mk A0
  clear A0
  go_enter Tryd.func42, Tryd.ntmps42
  go_wp2_with (first | ((with_reducible refine gate_callee (f := 43) rfl ?_); refine goesL_ (some 6) rfl rfl Tryd.func43 (by kernel_rfl) rfl #[.int .i64 n, .int .i64 x] rfl (by (try simp only [List.map_toArray, List.map_cons, List.map_nil]); first | done | rfl | (simp only [List.length_drop, List.length_take]; rfl)) ?_; (with_reducible refine (impl_byReturns.calls k n x t _ A1.out).mono ?_); rintro e w' ⟨rfl, ⟨nd, rfl⟩⟩; refine ⟨_, rfl, ?_⟩))
  go_ret
  exact ⟨by first | rfl | (simp; done) | (simp [*]; done), (by repeat (first | exact Drawn0.refl _ | apply Drawn0.step))⟩

/-! ### impl_CountByReturns: function 10 -/
def impl_CountByReturns.f (k : Nat) (a0 : Int) : Option (List Int × Bool) := (impl_isPairs.f a0).bind fun t => (if t = true then ((impl_numbers.f k a0 (fun x => impl_CountByReturns_1.f k a0 x)).bind fun l => (some (l, true))) else (some (([] : List Int), false)))
theorem impl_CountByReturns.mono : ∀ a0 k, LeO (impl_CountByReturns.f k a0) (impl_CountByReturns.f (k + 1) a0) := by
  intro a0 k
  unfold impl_CountByReturns.f
  exact LeO.bind (LeO.refl _) fun _ => LeO.ite (LeO.bind (impl_numbers.mono (fun x => impl_CountByReturns_1.mono _ _ _) _ _) fun _ => LeO.refl _) (LeO.refl _)
set_option maxHeartbeats 2000000 in
set_option maxRecDepth 100000 in
theorem impl_CountByReturns.calls (k : Nat) (a0 : Int) (r1 : List Int) (r2 : Bool) (w : World) (h : impl_CountByReturns.f k a0 = some (r1, r2)) :
    Calls Tryd.prog 10 #[.int .i64 a0] w fun e w' => ∃ v0_ : Value, e = .returned (.tuple #[v0_, .bool r2]) ∧ Kd.R (Kd.int .i64) 3 w' w.heap.size (fun _ => True) v0_ r1 ∧ Below w.heap.size w w' := by
  have HB := Aside0.mk (Below.refl w.heap.size w)
  have hmf : ∀ (fn : Fn) (first cap : Array Value) (w : World), (Instr.makeFunc fn first cap).run Tryd.prog w = .ok (.func fn first cap) w := fun _ _ _ _ => rfl
  have H := h
  clear h
  unfold impl_CountByReturns.f at H
  replace H := Option.bind_eq_some_iff.mp H
  obtain ⟨t159, A20, H⟩ := H
  have A2 := Aside0.mk A20
  clear A20
  by_cases c3 : t159 = true
  · subst c3
    rw [if_pos rfl] at H
    replace H := Option.bind_eq_some_iff.mp H
    obtain ⟨l, A30, H⟩ := H
    have A3 := Aside0.mk A30
    clear A30
    simp only [Option.some.injEq, Prod.mk.injEq] at H
    obtain ⟨rfl, rfl⟩ := H
    go_enter Tryd.func10, Tryd.ntmps10
    go_wp2_with (first | ((with_reducible refine gate_callee (f := 33) rfl ?_); refine goesL_ (some 5) rfl rfl Tryd.func33 (by kernel_rfl) rfl #[.int .i64 a0] rfl (by (try simp only [List.map_toArray, List.map_cons, List.map_nil]); first | done | rfl | (simp only [List.length_drop, List.length_take]; rfl)) ?_; (with_reducible refine (impl_isPairs.calls a0 true _ A2.out).mono ?_); rintro e w' ⟨rfl, ⟨nd, rfl⟩⟩; refine ⟨_, rfl, ?_⟩) | ((with_reducible refine gate_callee (f := 34) rfl ?_); refine goesL_ (some 9) rfl rfl Tryd.func34 (by kernel_rfl) rfl #[.int .i64 a0, .func (.func 42) #[] #[.pointer (some ⟨w.heap.size, 0, none⟩)]] rfl (by (try simp only [List.map_toArray, List.map_cons, List.map_nil]); first | done | rfl | (simp only [List.length_drop, List.length_take]; rfl)) ?_; refine (impl_numbers.calls k a0 42 #[.pointer (some ⟨w.heap.size, 0, none⟩)] (fun x => impl_CountByReturns_1.f k a0 x) l _ (ent_of Tryd.func42 (by kernel_rfl) rfl) ?hof A3.out).mono ?_; (case hof => intro x t W hb ht; exact (impl_CountByReturns_1.calls k w.heap.size a0 x t W ((hb.cell (p := ⟨w.heap.size, 0, none⟩) (by simp)).trans (by simp)) ht).mono fun e w' ⟨he, hd⟩ => ⟨he, hd.below⟩); rintro e w5 ⟨v0, rfl, hr, hb⟩; refine ⟨_, rfl, ?_⟩; have n0_ := Aside0.mk (Kd.R_lower hr (below_size (by repeat (first | (with_reducible first | exact HB.out | apply below_alloc | apply pw_below_drewN | apply below_drew1) | exact HB.out)))); have n1_ := Aside0.mk (below_step (by repeat (first | (with_reducible first | exact HB.out | apply below_alloc | apply pw_below_drewN | apply below_drew1) | exact HB.out)) hb); clear HB; have HO := n0_; have HB := n1_; clear n0_ n1_; clear hr hb))
    go_ret2
    exact ⟨_, by first | rfl | (simp; done) | (simp [*]; done), by (with_reducible repeat (first | apply Kd.R_alloc | apply Kd.R_drewN | apply Kd.R_drew)); exact HO.out, (by repeat (first | (with_reducible first | exact HB.out | apply below_alloc | apply pw_below_drewN | apply below_drew1) | exact HB.out))⟩
  · replace c3 := Bool.eq_false_iff.mpr c3
    subst c3
    rw [if_neg (show ¬ (false = true) by decide)] at H
    simp only [Option.some.injEq, Prod.mk.injEq] at H
    obtain ⟨rfl, rfl⟩ := H
    go_enter Tryd.func10, Tryd.ntmps10
    go_wp2_with (first | ((with_reducible refine gate_callee (f := 33) rfl ?_); refine goesL_ (some 5) rfl rfl Tryd.func33 (by kernel_rfl) rfl #[.int .i64 a0] rfl (by (try simp only [List.map_toArray, List.map_cons, List.map_nil]); first | done | rfl | (simp only [List.length_drop, List.length_take]; rfl)) ?_; (with_reducible refine (impl_isPairs.calls a0 false _ A2.out).mono ?_); rintro e w' ⟨rfl, ⟨nd, rfl⟩⟩; refine ⟨_, rfl, ?_⟩))
    go_ret2
    exact ⟨_, by first | rfl | (simp; done) | (simp [*]; done), Kd.R_nil _ _ _ _ _, (by repeat (first | (with_reducible first | exact HB.out | apply below_alloc | apply pw_below_drewN | apply below_drew1) | exact HB.out))⟩

/-! ### spec_reReturns: function 44 -/
mutual
def spec_reReturns.j0 : Nat → Int → List Int → Option (List Int)
  | 0, _, _ => none
  | k + 1, x0, x3 => spec_reReturns.l0 k x0 x3 1
def spec_reReturns.l0 : Nat → Int → List Int → Int → Option (List Int)
  | 0, _, _, _ => none
  | k + 1, x0, x3, x4 => if x4 ≤ x0 then ((spec_paChoose.f k (wrap64 ((wrap64 (2 * x0)) - x4)) x0).bind fun t176 => (if (wrap64 ((wrap64 (2 * x0)) - x4)) = 0 then (none) else (if 0 ≤ x4 then (if x4 < (x3.length : Int) then (spec_reReturns.l0 k x0 (x3.set (x4 : Int).toNat (wrap64 (Int.tdiv (wrap64 (t176 * x4)) (wrap64 ((wrap64 (2 * x0)) - x4))))) (wrap64 (x4 + 1))) else (none)) else (none)))) else (some x3)
end
def spec_reReturns.f (k : Nat) (a0 : Int) : Option (List Int) := if 0 ≤ (wrap64 (a0 + 1)) then (if (wrap64 (a0 + 1) : Int).toNat ≤ 35184372088832 then ((some (List.replicate (wrap64 (a0 + 1) : Int).toNat 0 : List Int)).bind fun y172 => (if a0 = 0 then (if 0 < (y172.length : Int) then (spec_reReturns.j0 k a0 (y172.set (0 : Int).toNat 1)) else (none)) else (spec_reReturns.j0 k a0 y172))) else (none)) else (none)
theorem spec_reReturns.mono_l : ∀ k, (∀ y0 y1, LeO (spec_reReturns.j0 k y0 y1) (spec_reReturns.j0 (k + 1) y0 y1)) ∧ (∀ y0 y1 y2, LeO (spec_reReturns.l0 k y0 y1 y2) (spec_reReturns.l0 (k + 1) y0 y1 y2))
  | 0 => ⟨fun _ _ r h => by simp [spec_reReturns.j0] at h, fun _ _ _ r h => by simp [spec_reReturns.l0] at h⟩
  | k + 1 => by
    obtain ⟨ih0, ih1⟩ := spec_reReturns.mono_l k
    refine ⟨?_, ?_⟩
    · intro y0 y1
      unfold spec_reReturns.j0
      repeat' first
      | (with_reducible exact ih0 _ _)
      | (with_reducible exact ih1 _ _ _)
      | (with_reducible exact spec_paChoose.mono _ _ _)
      | (with_reducible exact LeO.refl _)
      | (with_reducible exact LeO.none _)
      | (with_reducible refine LeO.ite ?_ ?_)
      | (with_reducible refine LeO.bind ?_ (fun _ => ?_))
      | exact ih0 _ _
      | exact ih1 _ _ _
      | exact spec_paChoose.mono _ _ _
      | exact LeO.none _
      | refine LeO.ite ?_ ?_
      | refine LeO.bind ?_ (fun _ => ?_)
    · intro y0 y1 y2
      unfold spec_reReturns.l0
      repeat' first
      | (with_reducible exact ih0 _ _)
      | (with_reducible exact ih1 _ _ _)
      | (with_reducible exact spec_paChoose.mono _ _ _)
      | (with_reducible exact LeO.refl _)
      | (with_reducible exact LeO.none _)
      | (with_reducible refine LeO.ite ?_ ?_)
      | (with_reducible refine LeO.bind ?_ (fun _ => ?_))
      | exact ih0 _ _
      | exact ih1 _ _ _
      | exact spec_paChoose.mono _ _ _
      | exact LeO.none _
      | refine LeO.ite ?_ ?_
      | refine LeO.bind ?_ (fun _ => ?_)
theorem spec_reReturns.mono : ∀ a0 k, LeO (spec_reReturns.f k a0) (spec_reReturns.f (k + 1) a0) := by
  intro a0 k
  obtain ⟨ih0, ih1⟩ := spec_reReturns.mono_l k
  unfold spec_reReturns.f
  repeat' first
      | (with_reducible exact ih0 _ _)
      | (with_reducible exact ih1 _ _ _)
      | (with_reducible exact spec_paChoose.mono _ _ _)
      | (with_reducible exact LeO.refl _)
      | (with_reducible exact LeO.none _)
      | (with_reducible refine LeO.ite ?_ ?_)
      | (with_reducible refine LeO.bind ?_ (fun _ => ?_))
      | exact ih0 _ _
      | exact ih1 _ _ _
      | exact spec_paChoose.mono _ _ _
      | exact LeO.none _
      | refine LeO.ite ?_ ?_
      | refine LeO.bind ?_ (fun _ => ?_)
set_option maxHeartbeats 8000000 in
set_option maxRecDepth 100000 in
theorem spec_reReturns.calls (k : Nat) (a0 : Int) (r : List Int) (w : World) (h : spec_reReturns.f k a0 = some r) :
    Calls Tryd.prog 44 #[.int .i64 a0] w fun e w' => ∃ v0_ : Value, e = .returned (v0_) ∧ Kd.R (Kd.int .i64) 3 w' w.heap.size (fun _ => True) v0_ r ∧ Below w.heap.size w w' := by
  have HB := Aside0.mk (Below.refl w.heap.size w)
  have H : (if 0 ≤ (wrap64 (a0 + 1)) then (if (wrap64 (a0 + 1) : Int).toNat ≤ 35184372088832 then ((some (List.replicate (wrap64 (a0 + 1) : Int).toNat 0 : List Int)).bind fun y172 => (if a0 = 0 then (if 0 < (y172.length : Int) then (spec_reReturns.j0 k a0 (y172.set (0 : Int).toNat 1)) else (none)) else (spec_reReturns.j0 k a0 y172))) else (none)) else (none)) = some r := h
  clear h
  obtain ⟨ji2, hji2⟩ : ∃ j_ : Int, (wrap64 (a0 + 1)) = j_ := ⟨_, rfl⟩
  replace H : (if 0 ≤ (ji2) then (if (ji2 : Int).toNat ≤ 35184372088832 then ((some (List.replicate (ji2 : Int).toNat 0 : List Int)).bind fun y172 => (if a0 = 0 then (if 0 < (y172.length : Int) then (spec_reReturns.j0 k a0 (y172.set (0 : Int).toNat 1)) else (none)) else (spec_reReturns.j0 k a0 y172))) else (none)) else (none)) = some r := by first | (rw [hji2] at H; exact H) | (simp only [hji2] at H ⊢; exact H)
  have hji2w : (IntKind.i64.wrap (a0 + 1)) = ji2 := (i64_w _).trans hji2
  by_cases c3 : 0 ≤ (ji2)
  · rw [if_pos c3] at H
    have c3b0 := eq_true c3
    have c3b1 : decide (0 ≤ (ji2)) = true := decide_eq_true c3
    clear c3
    by_cases c4 : (ji2 : Int).toNat ≤ 35184372088832
    · rw [if_pos c4] at H
      have c4b0 := eq_true c4
      have c4b1 : decide ((ji2 : Int).toNat ≤ 35184372088832) = true := decide_eq_true c4
      clear c4
      obtain ⟨y172, hy172⟩ : ∃ y_ : List Int, y_ = (List.replicate (ji2 : Int).toNat 0) := ⟨_, rfl⟩
      replace H : (if a0 = 0 then (if 0 < (y172.length : Int) then (spec_reReturns.j0 k a0 (y172.set (0 : Int).toNat 1)) else (none)) else (spec_reReturns.j0 k a0 y172)) = some r := by first | (rw [hy172]; with_reducible exact H) | (have H2_ := (Option.bind_some _ _).symm.trans H; rw [hy172]; with_reducible exact H2_) | (have H2_ := (Option.bind_some _ _).symm.trans H; with_reducible exact H2_) | with_reducible exact H | (rw [hy172]; exact H) | exact H
      have Ny172 := Aside0.mk hy172
      clear hy172
      have HC5 := Aside0.mk H
      clear H
      go_enter Tryd.func44, Tryd.ntmps44
      go_upto_if 9 with (first | ((with_reducible refine gate_dst (N := 7) rfl ?_); refine Kd.R_make (Kd.int .i64) _ 3 rfl (N := 7) rfl 25 _ _ rfl ji2 rfl rfl Tryd.underlying25 (.int .i64 0) 8 info3 rfl (by decide) (by omega) 0 (ok := fun _ => True) (okp := fun _ => True) rfl (fun _ hk => hk) trivial (of_decide_eq_true (by first | (with_reducible assumption) | assumption)) (Nat.le_trans (Nat.mul_le_mul_right _ (of_decide_eq_true (by first | (with_reducible assumption) | assumption) : ji2.toNat ≤ 35184372088832)) (by omega)) (Below.refl _ _) (Nat.le_refl _) ?_; intro v173 w6 ho7 hb hg_ hnew_; clear hg_ hnew_; (first | rw [← Ny172.out] at ho7 | (simp only [Int.reduceToNat] at ho7; rw [← Ny172.out] at ho7)); have n0_ := Aside0.mk (Kd.R_lower ho7 (below_size (by repeat (first | (with_reducible first | exact HB.out | apply below_alloc | apply pw_below_drewN | apply below_drew1) | exact HB.out)))); have n1_ := Aside0.mk (below_step (by repeat (first | (with_reducible first | exact HB.out | apply below_alloc | apply pw_below_drewN | apply below_drew1) | exact HB.out)) hb); clear HB; have HO174 := n0_; have HB := n1_; clear n0_ n1_; clear hb ho7))
      (try simp only [Act.put, List.setIfInBounds_toArray, List.set_cons_zero, List.set_cons_succ])
      go_cut [] (fun wc => ∃ (kq : Nat) (x3_4 : List Int), Aside0 (spec_reReturns.j0 kq a0 x3_4 = some r) ∧ Aside0 (kq ≤ k) ∧ Aside0 (Kd.R (Kd.int .i64) 3 wc w.heap.size (fun _ => True) v173 x3_4) ∧ Aside0 (Below w.heap.size w wc))
      case first =>
        have H := HC5.out
        clear HC5
        by_cases c8 : a0 = 0
        · rw [if_pos c8] at H
          have c8b0 : (a0 == 0) = true := beq_iff_eq.mpr c8
          have c8b1 : (a0 != 0) = false := bne_eq_false_iff_eq.mpr c8
          clear c8
          (first | rw [c8b0] | (simp only [i64_w, i32_w]; rw [c8b0]) | skip)
          by_cases c9 : 0 < (y172.length : Int)
          · rw [if_pos c9] at H
            have c9b0 : decide (0 < (y172.length : Int)) = true := decide_eq_true c9
            have c9b1 : decide (0 < y172.length) = true := decide_eq_true (by omega)
            clear c9
            obtain ⟨y175, hy175⟩ : ∃ y_ : List Int, y_ = (y172.set (0 : Int).toNat 1) := ⟨_, rfl⟩
            replace H : (spec_reReturns.j0 k a0 y175) = some r := by first | (rw [hy175]; with_reducible exact H) | (have H2_ := (Option.bind_some _ _).symm.trans H; rw [hy175]; with_reducible exact H2_) | (have H2_ := (Option.bind_some _ _).symm.trans H; with_reducible exact H2_) | with_reducible exact H | (rw [hy175]; exact H) | exact H
            have Ny175 := Aside0.mk hy175
            clear hy175
            have H' := Aside0.mk H
            clear H
            have p10 : 0 ≤ (0 : Int) := (by omega)
            have q10 : (0 : Int) < ((y172.length : Int) : Int) := of_decide_eq_true (by first | (with_reducible assumption) | assumption)
            have qi10 : (0 < y172.length) = True := eq_true (by omega)
            obtain ⟨go10, co10, eo10, gb10, gl10, cl10, HG10⟩ := Kd.R_form HO174.out (by omega)
            (first | cases eo10 | (injection eo10 with ea_ en_ ec_; (first | subst ea_ | (injection ea_ with ea_; subst ea_)); subst ec_; clear en_))
            have GB10 := Aside0.mk gb10
            have GG10 := Aside0.mk HG10
            clear gb10 gl10 HG10
            obtain ⟨hx10_0, hf10_0⟩ := Kd.R_celln 0 HO174.out (0 : Int) p10 q10
            (try rw [show ((0 : Int)).toNat = 0 from rfl] at hx10_0)
            (try simp only [Nat.reduceMul, Nat.zero_mul, Nat.zero_add, Nat.reduceAdd] at hx10_0)
            (try rw [show ((0 : Int)).toNat = 0 from rfl] at hf10_0)
            (try simp only [Nat.reduceMul, Nat.zero_mul, Nat.zero_add, Nat.reduceAdd] at hf10_0)
            replace p10 := eq_true p10
            replace q10 := eq_true q10
            have HP11 := Kd.R_putg HO174.out (0 : Int) 1
            go_wp2_with (first | ((with_reducible refine gate_store (t := 3) (p := 11) rfl ?_); refine store_event (t := 3) (p := 11) (v := ?vo_w12) (w1 := (w6.setCell ⟨go10, (0 : Int).toNat, none⟩ (.int .i64 1))) ?hg ?ho ?hn ?hr ?_; (case ho => rfl); (case hg => rfl); (case hn => rfl); (case hr => first | (go_simp; done) | (go_simp; rfl)); intro w12 hw; have hg : w6.grownBy w12 (some go10) := (by rw [hw]; exact HP11.2); have hp_ : Kd.R (Kd.int .i64) 3 w12 w.heap.size (fun _ => True) (.slice (some ⟨go10, 0, none⟩) y172.length co10) y175 := (by rw [hw, Ny175.out]; exact HP11.1); clear HP11; have n0_ := Aside0.mk (hp_); have n1_ := Aside0.mk ((by rw [hw]; exact below_set (HB.out) GB10.out : Below w.heap.size w w12)); clear HO174; clear HB; have HO174 := n0_; have HB := n1_; clear n0_ n1_; clear hg hw hp_))
            go_meet
            case rel => exact ⟨_, (y175), H', ⟨by first | omega | exact Nat.le_refl _⟩, ⟨by (with_reducible repeat (first | apply Kd.R_alloc | apply Kd.R_drewN | apply Kd.R_drew)); exact HO174.out⟩, ⟨by repeat (first | (with_reducible first | exact HB.out | apply below_alloc | apply pw_below_drewN | apply below_drew1) | exact HB.out)⟩⟩
          · rw [if_neg c9] at H
            exact absurd H (by simp)
        · rw [if_neg c8] at H
          have c8b0 : (a0 == 0) = false := beq_eq_false_iff_ne.mpr c8
          have c8b1 : (a0 != 0) = true := bne_iff_ne.mpr c8
          (first | rw [c8b0] | (simp only [i64_w, i32_w]; rw [c8b0]) | skip)
          have H' := Aside0.mk H
          clear H
          go_wp2
          go_meet
          case rel => exact ⟨_, (y172), H', ⟨by first | omega | exact Nat.le_refl _⟩, ⟨by (with_reducible repeat (first | apply Kd.R_alloc | apply Kd.R_drewN | apply Kd.R_drew)); exact HO174.out⟩, ⟨by repeat (first | (with_reducible first | exact HB.out | apply below_alloc | apply pw_below_drewN | apply below_drew1) | exact HB.out)⟩⟩
      case rest =>
        clear HC5
        try clear p1
        try clear q1
        try clear hx1
        try clear qi1
        try clear hf1
        try clear p2
        try clear c3
        try clear c3b0
        try clear c3b1
        try clear c4
        try clear c4b0
        try clear c4b1
        try clear p6
        try clear c8
        try clear c8b0
        try clear c8b1
        try clear c9
        try clear c9b0
        try clear c9b1
        try clear p10
        try clear q10
        try clear hx10
        try clear qi10
        try clear hf10
        try clear hx10_0
        try clear p10
        try clear q10
        obtain ⟨kq, x3_4, HA, HJ4, HO_3, HB⟩ := hcut
        cases kq with
        | zero => exact absurd HA.out (by simp [spec_reReturns.j0])
        | succ kj4 =>
          have H := HA.out
          clear HA
          simp only [spec_reReturns.j0] at H
          have H' := Aside0.mk H
          clear H
          go_wp2
          go_loopg [4] kj4 (fun kq v4 w' => ∃ (x3_2 : List Int) (x4_2 : Int), v4 = .int .i64 x4_2 ∧ Aside0 (spec_reReturns.l0 kq a0 x3_2 x4_2 = some r) ∧ Aside0 (kq ≤ kj4) ∧ Aside0 (Kd.R (Kd.int .i64) 3 w' w.heap.size (fun _ => True) v173 x3_2) ∧ Aside0 (Below w.heap.size w w'))
          case atStart => exact ⟨(x3_4), (1), (by first | rfl | (simp; done) | (simp [*]; done)), H', ⟨Nat.le_refl _⟩, ⟨by (with_reducible repeat (first | apply Kd.R_alloc | apply Kd.R_drewN | apply Kd.R_drew)); exact HO_3.out⟩, ⟨by repeat (first | (with_reducible first | exact HB.out | apply below_alloc | apply pw_below_drewN | apply below_drew1) | exact HB.out)⟩⟩
          case round =>
            clear H'
            try clear p1
            try clear q1
            try clear hx1
            try clear qi1
            try clear hf1
            try clear p2
            try clear c3
            try clear c3b0
            try clear c3b1
            try clear c4
            try clear c4b0
            try clear c4b1
            try clear p6
            try clear c8
            try clear c8b0
            try clear c8b1
            try clear c9
            try clear c9b0
            try clear c9b1
            try clear p10
            try clear q10
            try clear hx10
            try clear qi10
            try clear hf10
            try clear hx10_0
            try clear p1
            try clear p10
            try clear p2
            try clear p6
            try clear q1
            try clear q10
            obtain ⟨x3_2, x4_2, rfl, HA, HK2, HO_3, HB⟩ := hrel
            cases gk with
            | zero => exact absurd HA.out (by simp [spec_reReturns.l0])
            | succ k2 =>
              have H := HA.out
              clear HA
              simp only [spec_reReturns.l0] at H
              by_cases c13 : x4_2 ≤ a0
              · rw [if_pos c13] at H
                have c13b0 : decide (x4_2 ≤ a0) = true := decide_eq_true c13
                clear c13
                replace H := Option.bind_eq_some_iff.mp H
                obtain ⟨t176, A140, H⟩ := H
                replace H : (if (wrap64 ((wrap64 (2 * a0)) - x4_2)) = 0 then (none) else (if 0 ≤ x4_2 then (if x4_2 < (x3_2.length : Int) then (spec_reReturns.l0 k2 a0 (x3_2.set (x4_2 : Int).toNat (wrap64 (Int.tdiv (wrap64 (t176 * x4_2)) (wrap64 ((wrap64 (2 * a0)) - x4_2))))) (wrap64 (x4_2 + 1))) else (none)) else (none))) = some r := H
                have A14 := Aside0.mk A140
                clear A140
                by_cases c15 : (wrap64 ((wrap64 (2 * a0)) - x4_2)) = 0
                · rw [if_pos c15] at H
                  exact absurd H (by simp)
                · rw [if_neg c15] at H
                  have c15b0 : ((wrap64 ((wrap64 (2 * a0)) - x4_2)) == 0) = false := beq_eq_false_iff_ne.mpr c15
                  have c15b1 : ((wrap64 ((wrap64 (2 * a0)) - x4_2)) != 0) = true := bne_iff_ne.mpr c15
                  by_cases c16 : 0 ≤ x4_2
                  · rw [if_pos c16] at H
                    have c16b0 : decide (0 ≤ x4_2) = true := decide_eq_true c16
                    clear c16
                    by_cases c17 : x4_2 < (x3_2.length : Int)
                    · rw [if_pos c17] at H
                      have c17b0 : decide (x4_2 < (x3_2.length : Int)) = true := decide_eq_true c17
                      clear c17
                      obtain ⟨y177, hy177⟩ : ∃ y_ : List Int, y_ = (x3_2.set (x4_2 : Int).toNat (wrap64 (Int.tdiv (wrap64 (t176 * x4_2)) (wrap64 ((wrap64 (2 * a0)) - x4_2))))) := ⟨_, rfl⟩
                      replace H : (spec_reReturns.l0 k2 a0 y177 (wrap64 (x4_2 + 1))) = some r := by first | (rw [hy177]; with_reducible exact H) | (have H2_ := (Option.bind_some _ _).symm.trans H; rw [hy177]; with_reducible exact H2_) | (have H2_ := (Option.bind_some _ _).symm.trans H; with_reducible exact H2_) | with_reducible exact H | (rw [hy177]; exact H) | exact H
                      have Ny177 := Aside0.mk hy177
                      clear hy177
                      have H' := Aside0.mk H
                      clear H
                      go_wp2_with (first | ((with_reducible refine gate_callee (f := 38) rfl ?_); refine goesL_ (some 24) rfl rfl Tryd.func38 (by kernel_rfl) rfl #[.int .i64 (wrap64 ((wrap64 (2 * a0)) - x4_2)), .int .i64 a0] rfl (by (try simp only [List.map_toArray, List.map_cons, List.map_nil]); first | done | rfl | (simp only [List.length_drop, List.length_take]; rfl)) ?_; (with_reducible refine (spec_paChoose.calls k2 (wrap64 ((wrap64 (2 * a0)) - x4_2)) a0 t176 _ A14.out).mono ?_); rintro e w19 ⟨rfl, hb⟩; refine ⟨_, rfl, ?_⟩; have n0_ := Aside0.mk (Kd.R_below (by (with_reducible repeat (first | apply Kd.R_alloc | apply Kd.R_drewN | apply Kd.R_drew)); exact HO_3.out) hb); have n1_ := Aside0.mk (below_step (by repeat (first | (with_reducible first | exact HB.out | apply below_alloc | apply pw_below_drewN | apply below_drew1) | exact HB.out)) hb); clear HO_3; clear HB; have HO_3 := n0_; have HB := n1_; clear n0_ n1_; (try clear hb); (try clear hb2); (try clear hk); (try clear hi); have p18 : 0 ≤ (x4_2 : Int) := of_decide_eq_true (by first | (with_reducible assumption) | assumption); have q18 : (x4_2 : Int) < ((x3_2.length : Int) : Int) := of_decide_eq_true (by first | (with_reducible assumption) | assumption); obtain ⟨go18, co18, eo18, gb18, gl18, cl18, HG18⟩ := Kd.R_form HO_3.out (by omega); (first | cases eo18 | (injection eo18 with ea_ en_ ec_; (first | subst ea_ | (injection ea_ with ea_; subst ea_)); subst ec_; clear en_)); have GB18 := Aside0.mk gb18; have GG18 := Aside0.mk HG18; clear gb18 gl18 HG18; obtain ⟨hx18_0, hf18_0⟩ := Kd.R_celln 0 HO_3.out (x4_2 : Int) p18 q18; replace p18 := eq_true p18; replace q18 := eq_true q18; obtain ⟨hy20_, hz20_⟩ := Kd.R_celln 0 HO_3.out (x4_2 : Int) (of_decide_eq_true (by first | (with_reducible assumption) | assumption)) (of_decide_eq_true (by first | (with_reducible assumption) | assumption)); have HP20 := Kd.R_putg HO_3.out (x4_2 : Int) (wrap64 (Int.tdiv (wrap64 (t176 * x4_2)) (wrap64 ((wrap64 (2 * a0)) - x4_2))))) | ((with_reducible refine gate_store (t := 3) (p := 32) rfl ?_); refine store_event (t := 3) (p := 32) (v := ?vo_w21) (w1 := (w19.setCell ⟨go18, (x4_2 : Int).toNat, none⟩ (.int .i64 (wrap64 (Int.tdiv (wrap64 (t176 * x4_2)) (wrap64 ((wrap64 (2 * a0)) - x4_2))))))) ?hg ?ho ?hn ?hr ?_; (case ho => rfl); (case hg => rfl); (case hn => rfl); (case hr => first | (go_simp; done) | (go_simp; rfl)); intro w21 hw; have hg : w19.grownBy w21 (some go18) := (by rw [hw]; exact HP20.2); have hp_ : Kd.R (Kd.int .i64) 3 w21 w.heap.size (fun _ => True) (.slice (some ⟨go18, 0, none⟩) x3_2.length co18) y177 := (by rw [hw, Ny177.out]; exact HP20.1); clear HP20; have n0_ := Aside0.mk (hp_); have n1_ := Aside0.mk ((by rw [hw]; exact below_set (HB.out) GB18.out : Below w.heap.size w w21)); clear HO_3; clear HB; have HO_3 := n0_; have HB := n1_; clear n0_ n1_; clear hg hw hp_))
                      go_roundg k2
                      case measure => have := HJ4.out; have := HK2.out; omega
                      case rel => exact ⟨(y177), (wrap64 (x4_2 + 1)), (by first | rfl | (simp; done) | (simp [*]; done)), H', ⟨by have := HJ4.out; have := HK2.out; omega⟩, ⟨by (with_reducible repeat (first | apply Kd.R_alloc | apply Kd.R_drewN | apply Kd.R_drew)); exact HO_3.out⟩, ⟨by repeat (first | (with_reducible first | exact HB.out | apply below_alloc | apply pw_below_drewN | apply below_drew1) | exact HB.out)⟩⟩
                    · rw [if_neg c17] at H
                      exact absurd H (by simp)
                  · rw [if_neg c16] at H
                    exact absurd H (by simp)
              · rw [if_neg c13] at H
                have c13b0 : decide (x4_2 ≤ a0) = false := decide_eq_false c13
                clear c13
                obtain rfl := Option.some.inj H
                go_wp2
                go_ret
                exact ⟨_, by first | rfl | (simp [errW_none, errW_some] <;> rfl) | (simp only [← hji2]; first | rfl | (simp [errW_none, errW_some] <;> rfl)) | (simp [*, errW_none, errW_some] <;> rfl), by (with_reducible repeat (first | apply Kd.R_alloc | apply Kd.R_drewN | apply Kd.R_drew)); exact HO_3.out, by repeat (first | (with_reducible first | exact HB.out | apply below_alloc | apply pw_below_drewN | apply below_drew1) | exact HB.out)⟩
    · rw [if_neg c4] at H
      exact absurd H (by simp)
  · rw [if_neg c3] at H
    exact absurd H (by simp)

/-! ### spec_CountByReturns: function 11 -/
def spec_CountByReturns.f (k : Nat) (a0 : Int) : Option (List Int × Bool) := (spec_reGood.f a0).bind fun t178 => (if t178 = true then ((spec_reReturns.f k a0).bind fun t179 => (some (t179, true))) else (some (([] : List Int), false)))
theorem spec_CountByReturns.mono : ∀ a0 k, LeO (spec_CountByReturns.f k a0) (spec_CountByReturns.f (k + 1) a0) := by
  intro a0 k
  unfold spec_CountByReturns.f
  repeat' first
      | (with_reducible exact spec_reReturns.mono _ _)
      | (with_reducible exact LeO.refl _)
      | (with_reducible exact LeO.none _)
      | (with_reducible refine LeO.ite ?_ ?_)
      | (with_reducible refine LeO.bind ?_ (fun _ => ?_))
      | exact spec_reReturns.mono _ _
      | exact LeO.none _
      | refine LeO.ite ?_ ?_
      | refine LeO.bind ?_ (fun _ => ?_)
set_option maxHeartbeats 8000000 in
set_option maxRecDepth 100000 in
theorem spec_CountByReturns.calls (k : Nat) (a0 : Int) (r1 : List Int) (r2 : Bool) (w : World) (h : spec_CountByReturns.f k a0 = some (r1, r2)) :
    Calls Tryd.prog 11 #[.int .i64 a0] w fun e w' => ∃ v0_ : Value, e = .returned (.tuple #[v0_, .bool r2]) ∧ Kd.R (Kd.int .i64) 3 w' w.heap.size (fun _ => True) v0_ r1 ∧ Below w.heap.size w w' := by
  have HB := Aside0.mk (Below.refl w.heap.size w)
  have H : ((spec_reGood.f a0).bind fun t178 => (if t178 = true then ((spec_reReturns.f k a0).bind fun t179 => (some (t179, true))) else (some (([] : List Int), false)))) = some (r1, r2) := h
  clear h
  replace H := Option.bind_eq_some_iff.mp H
  obtain ⟨t178, A20, H⟩ := H
  replace H : (if t178 = true then ((spec_reReturns.f k a0).bind fun t179 => (some (t179, true))) else (some (([] : List Int), false))) = some (r1, r2) := H
  have A2 := Aside0.mk A20
  clear A20
  by_cases c3 : t178 = true
  · subst c3
    have H1 : ((spec_reReturns.f k a0).bind fun t179 => (some (t179, true))) = some (r1, r2) := by rw [if_pos rfl] at H; exact H
    clear H
    have H := H1
    clear H1
    replace H := Option.bind_eq_some_iff.mp H
    obtain ⟨t179, A40, H⟩ := H
    replace H : (some (t179, true)) = some (r1, r2) := H
    have A4 := Aside0.mk A40
    clear A40
    simp only [Option.some.injEq, Prod.mk.injEq] at H
    obtain ⟨rfl, rfl⟩ := H
    go_enter Tryd.func11, Tryd.ntmps11
    go_wp2_with (first | ((with_reducible refine gate_callee (f := 37) rfl ?_); refine goesL_ (some 5) rfl rfl Tryd.func37 (by kernel_rfl) rfl #[.int .i64 a0] rfl (by (try simp only [List.map_toArray, List.map_cons, List.map_nil]); first | done | rfl | (simp only [List.length_drop, List.length_take]; rfl)) ?_; (with_reducible refine (spec_reGood.calls a0 true _ A2.out).mono ?_); rintro e w' ⟨rfl, ⟨nd, rfl⟩⟩; refine ⟨_, rfl, ?_⟩) | ((with_reducible refine gate_callee (f := 44) rfl ?_); refine goesL_ (some 8) rfl rfl Tryd.func44 (by kernel_rfl) rfl #[.int .i64 a0] rfl (by (try simp only [List.map_toArray, List.map_cons, List.map_nil]); first | done | rfl | (simp only [List.length_drop, List.length_take]; rfl)) ?_; (with_reducible refine (spec_reReturns.calls k a0 t179 _ A4.out).mono ?_); rintro e w5 ⟨v180, rfl, ho0, hb⟩; refine ⟨_, rfl, ?_⟩; have n0_ := Aside0.mk (Kd.R_lower ho0 (below_size (by repeat (first | (with_reducible first | exact HB.out | apply below_alloc | apply pw_below_drewN | apply below_drew1) | exact HB.out)))); have n1_ := Aside0.mk (below_step (by repeat (first | (with_reducible first | exact HB.out | apply below_alloc | apply pw_below_drewN | apply below_drew1) | exact HB.out)) hb); clear HB; have HO181 := n0_; have HB := n1_; clear n0_ n1_; (try clear hb); (try clear hb2); (try clear hk); (try clear hi); (try clear ho0)))
    go_ret2
    exact ⟨_, by first | rfl | (simp [errW_none, errW_some] <;> rfl) | (simp [*, errW_none, errW_some] <;> rfl), by (with_reducible repeat (first | apply Kd.R_alloc | apply Kd.R_drewN | apply Kd.R_drew)); exact HO181.out, by repeat (first | (with_reducible first | exact HB.out | apply below_alloc | apply pw_below_drewN | apply below_drew1) | exact HB.out)⟩
  · replace c3 := Bool.eq_false_iff.mpr c3
    subst c3
    have H1 : (some (([] : List Int), false)) = some (r1, r2) := by rw [if_neg (show ¬ (false = true) by decide)] at H; exact H
    clear H
    have H := H1
    clear H1
    simp only [Option.some.injEq, Prod.mk.injEq] at H
    obtain ⟨rfl, rfl⟩ := H
    go_enter Tryd.func11, Tryd.ntmps11
    go_wp2_with (first | ((with_reducible refine gate_callee (f := 37) rfl ?_); refine goesL_ (some 5) rfl rfl Tryd.func37 (by kernel_rfl) rfl #[.int .i64 a0] rfl (by (try simp only [List.map_toArray, List.map_cons, List.map_nil]); first | done | rfl | (simp only [List.length_drop, List.length_take]; rfl)) ?_; (with_reducible refine (spec_reGood.calls a0 false _ A2.out).mono ?_); rintro e w' ⟨rfl, ⟨nd, rfl⟩⟩; refine ⟨_, rfl, ?_⟩))
    go_ret2
    exact ⟨_, by first | rfl | (simp [errW_none, errW_some] <;> rfl) | (simp [*, errW_none, errW_some] <;> rfl), by first | exact Kd.R_nil _ _ _ _ _ | exact Kd.N_nil _ _ _ _ _ | exact Kd.V_nil _ _ _ _ _ | exact Kd.Q_nil _ _ _ _ _ | exact Kd.S_nil _ _ _ _ _, by repeat (first | (with_reducible first | exact HB.out | apply below_alloc | apply pw_below_drewN | apply below_drew1) | exact HB.out)⟩

/-! ### impl_CountByArea_1: function 46 -/
theorem impl_CountByArea_1.q1 : laidOutB Tryd.prog = true := by kernel_rfl
theorem impl_CountByArea_1.q2 : Tryd.prog.keyTypeAt 2 48 = true := by kernel_rfl
theorem impl_CountByArea_1.q3 : 48 < Tryd.prog.types.size := of_decide_eq_true (by kernel_rfl)
theorem impl_CountByArea_1.q4 : (match Tryd.prog.underlying 48 with | some (.array _ _) | some (.struct _) => true | _ => false) = true := by rw [Tryd.underlying48]
set_option maxRecDepth 100000 in
theorem impl_CountByArea_1.law : Maps.Keyed Tryd.prog 48 := Maps.Keyed.of_law (deep_law_laid impl_CountByArea_1.q1 (m := 2) (by omega) impl_CountByArea_1.q3 impl_CountByArea_1.q2 impl_CountByArea_1.q4)
theorem impl_CountByArea_1.key (h a : Int) (w0 : (Lit.int .i64 h).wf = true) (w1 : (Lit.int .i64 a).wf = true) : ∃ kl, keyOf Tryd.prog 48 (pv h a) = some kl := by
  obtain ⟨s, hs⟩ : ∃ s, Tryd.prog.types.size = s + 1 := ⟨Tryd.prog.types.size - 1, by kernel_rfl⟩
  exact zKeyS (E := 3) Tryd.underlying48 Tryd.underlying3 (by kernel_rfl) (by kernel_rfl) (by kernel_rfl) hs (by decide) (by decide) rfl rfl rfl rfl w0 w1
theorem impl_CountByArea_1.zero (w : World) : (zeroValue 3).run Tryd.prog w = .ok (.int .i64 0) w := by kernel_rfl
set_option maxHeartbeats 1000000 in
theorem impl_CountByArea_1.calls (B m n : Nat) (f : Int → Int → Int) (bd : Int → Int → Prop) (x : Int) (hx : (Lit.int .i64 x).wf = true) (w : World) (hc : w.cell? ⟨B, 0, none⟩ = some (.map (some m))) (ht : Tells Tryd.prog 48 3 w m n f bd) :
    Calls Tryd.prog 46 #[.int .i64 x, .pointer (some ⟨B, 0, none⟩)] w fun e w' => e = .returned (.int .i64 (f 0 x)) ∧ Drawn0 w w' := by
  obtain ⟨kl, hk⟩ := impl_CountByArea_1.key 0 x (by decide) hx
  obtain ⟨hl, _⟩ := ht.look impl_CountByArea_1.law Tryd.underlying49 Tryd.underlying3 (impl_CountByArea_1.zero _) hk
  unfold pv at hl
  go_enter Tryd.func46, Tryd.ntmps46
  go_wp2
  go_ret
  exact ⟨by first | rfl | (simp; done), by repeat (first | exact Drawn0.refl _ | apply Drawn0.step)⟩

/-! ### impl_CountByArea: function 12 -/
def impl_CountByArea.st (lim : Int) (g : Int → Int → Int) (h a : Int) : Int := if 0 ≤ h ∧ h ≤ lim then wrap64 (g (h - 1) (a - h) + g (h + 1) (a - h)) else 0
def impl_CountByArea.at (n : Int) : Nat → Int → Int → Int
  | 0, h, a => if h = 0 ∧ a = 0 then 1 else 0
  | i + 1, h, a => impl_CountByArea.st (2 * n - i - 1) (impl_CountByArea.at n i) h a
def impl_CountByArea.bd (i : Nat) (h a : Int) : Prop := (0 ≤ h ∧ h ≤ 30) ∧ 0 ≤ a ∧ a ≤ 30 * i
def impl_CountByArea.ms (n : Int) (v : Value) : Nat := match v with | .int _ i => (2 * n - i).toNat | _ => 0
theorem impl_CountByArea.ms_int (n i : Int) (q : IntKind) : impl_CountByArea.ms n (.int q i) = (2 * n - i).toNat := rfl
theorem impl_CountByArea.w0 : wrap64 (0 + 0) = 0 := by unfold wrap64; omega
theorem impl_CountByArea.at_out (n : Int) (hn : n ≤ 15) : ∀ (i : Nat) (h a : Int), ¬ impl_CountByArea.bd i h a → impl_CountByArea.at n i h a = 0
  | 0, h, a, hb => by
    unfold impl_CountByArea.at
    rw [if_neg]
    rintro ⟨rfl, rfl⟩
    exact hb (by unfold impl_CountByArea.bd; omega)
  | i + 1, h, a, hb => by
    unfold impl_CountByArea.at impl_CountByArea.st
    by_cases r : 0 ≤ h ∧ h ≤ 2 * n - i - 1
    · rw [if_pos r, impl_CountByArea.at_out n hn i (h - 1) (a - h) (by unfold impl_CountByArea.bd at hb ⊢; omega), impl_CountByArea.at_out n hn i (h + 1) (a - h) (by unfold impl_CountByArea.bd at hb ⊢; omega)]
      exact impl_CountByArea.w0
    · rw [if_neg r]
theorem impl_CountByArea.bd_key {i : Nat} {h a : Int} (hi : i ≤ 30) (hb : impl_CountByArea.bd i h a) : ∃ kl, keyOf Tryd.prog 48 (pv h a) = some kl := by
  unfold impl_CountByArea.bd at hb
  refine impl_CountByArea_1.key h a ?_ ?_
  · exact WalkArith.wf_i64 (by omega)
  · exact WalkArith.wf_i64 (by omega)
/-- Where only zeros are gone, next tells 0. -/
theorem impl_CountByArea.nx_start {n lim : Int} {i : Nat} (hn : n ≤ 15) (hi : i ≤ 30) {gone : Int → Int → Bool} (hz : ∀ x y kl, keyOf Tryd.prog 48 (pv x y) = some kl → gone x y = true → impl_CountByArea.at n i x y = 0) (h a : Int) : nx gone (impl_CountByArea.at n i) lim h a = 0 := by
  have hG : ∀ p q, G gone (impl_CountByArea.at n i) p q = 0 := fun p q => by
    unfold G
    by_cases e : gone p q = true
    · rw [if_pos e]
      by_cases hb : impl_CountByArea.bd i p q
      · obtain ⟨kl, hk⟩ := impl_CountByArea.bd_key hi hb
        exact hz p q kl hk e
      · exact impl_CountByArea.at_out n hn i p q hb
    · rw [if_neg e]
  unfold nx
  rw [hG, hG]
  split
  · exact impl_CountByArea.w0
  · rfl
/-- Where all is gone, next tells the next counts. -/
theorem impl_CountByArea.nx_end {n : Int} {i : Nat} (hn : n ≤ 15) (hi : i ≤ 30) {gone : Int → Int → Bool} (hz : ∀ x y kl, keyOf Tryd.prog 48 (pv x y) = some kl → gone x y = true) (h a : Int) : nx gone (impl_CountByArea.at n i) (2 * n - i - 1) h a = impl_CountByArea.at n (i + 1) h a := by
  have hG : ∀ p q, G gone (impl_CountByArea.at n i) p q = impl_CountByArea.at n i p q := fun p q => by
    unfold G
    by_cases e : gone p q = true
    · rw [if_pos e]
    · rw [if_neg e]
      by_cases hb : impl_CountByArea.bd i p q
      · obtain ⟨kl, hk⟩ := impl_CountByArea.bd_key hi hb
        exact absurd (hz p q kl hk) e
      · exact (impl_CountByArea.at_out n hn i p q hb).symm
  unfold nx
  rw [hG, hG]
  rfl
def impl_CountByArea.hh (x : Int) (j : Nat) : Int := if j = 0 then x - 1 else x + 1
/-- What next tells behind j of a round's two stores. -/
def impl_CountByArea.fj (lim x y c : Int) (f : Int → Int → Int) : Nat → Int → Int → Int
  | 0 => f
  | j + 1 => ad lim (impl_CountByArea.hh x j) (y + impl_CountByArea.hh x j) c (impl_CountByArea.fj lim x y c f j)
theorem impl_CountByArea.fj_two (lim x y c : Int) (f : Int → Int → Int) : impl_CountByArea.fj lim x y c f 2 = ad lim (x + 1) (y + (x + 1)) c (ad lim (x - 1) (y + (x - 1)) c f) := rfl
theorem impl_CountByArea.fj_in {lim x y c h : Int} {f : Int → Int → Int} {j : Nat} (e : h = impl_CountByArea.hh x j) (hl : 0 ≤ h ∧ h ≤ lim) (p q : Int) : impl_CountByArea.fj lim x y c f (j + 1) p q = if p = h ∧ q = y + h then wrap64 (impl_CountByArea.fj lim x y c f j h (y + h) + c) else impl_CountByArea.fj lim x y c f j p q := by
  show ad _ _ _ _ _ p q = _
  rw [← e, ad_at]
  by_cases r : p = h ∧ q = y + h
  · rw [if_pos r, if_pos ⟨hl, r⟩]
  · rw [if_neg r, if_neg (fun k => r k.2)]
theorem impl_CountByArea.fj_out {lim x y c h : Int} {f : Int → Int → Int} {j : Nat} (e : h = impl_CountByArea.hh x j) (hl : ¬ (0 ≤ h ∧ h ≤ lim)) : impl_CountByArea.fj lim x y c f (j + 1) = impl_CountByArea.fj lim x y c f j := by
  show ad _ _ _ _ _ = _
  rw [← e]
  unfold ad
  rw [if_neg hl]
def impl_CountByArea.of (n x : Int) : Option Int := if (Lit.int .i64 x).wf = true then some (impl_CountByArea.at n (2 * n).toNat 0 x) else none
theorem impl_CountByArea.hof {n : Int} {wr : World} {B m i c : Nat} (hC : Bx wr B 49 (.map (some m))) (hT : Tells Tryd.prog 48 3 wr m c (impl_CountByArea.at n (2 * n).toNat) (impl_CountByArea.bd i)) (x t : Int) (W : World) (hb : Below wr.heap.size wr W) (ht : impl_CountByArea.of n x = some t) :
    Calls Tryd.prog 46 (#[.int .i64 x] ++ #[.pointer (some ⟨B, 0, none⟩)]) W fun e w' => e = .returned (.int .i64 t) ∧ Below W.heap.size W w' := by
  unfold impl_CountByArea.of at ht
  by_cases hx : (Lit.int .i64 x).wf = true
  · rw [if_pos hx] at ht
    cases ht
    exact (impl_CountByArea_1.calls B m c _ _ x hx W ((hb.cell (p := ⟨B, 0, none⟩) hC.lt).trans hC.cell) (hT.below hb)).mono fun e w' ⟨he, hd⟩ => ⟨he, hd.below⟩
  · rw [if_neg hx] at ht
    cases ht
def impl_CountByArea.f (k : Nat) (a0 : Int) : Option (List Int × Bool) := (impl_isPairs.f a0).bind fun t => (if t = true then ((impl_numbers.f k (wrap64 (a0 * a0)) (fun x => impl_CountByArea.of a0 x)).bind fun l => (some (l, true))) else (some (([] : List Int), false)))
theorem impl_CountByArea.mono : ∀ a0 k, LeO (impl_CountByArea.f k a0) (impl_CountByArea.f (k + 1) a0) := by
  intro a0 k
  unfold impl_CountByArea.f
  exact LeO.bind (LeO.refl _) fun _ => LeO.ite (LeO.bind (impl_numbers.mono (fun x => LeO.refl _) _ _) fun _ => LeO.refl _) (LeO.refl _)
theorem impl_CountByArea.pairs {a0 : Int} (h : impl_isPairs.f a0 = some true) : 0 ≤ a0 ∧ a0 ≤ 15 := by
  unfold impl_isPairs.f impl_in.f at h
  by_cases c : (0 : Int) ≤ a0
  · rw [if_pos c] at h
    simp at h
    exact ⟨c, h⟩
  · rw [if_neg c] at h
    simp at h
set_option maxHeartbeats 400000 in
set_option maxRecDepth 100000 in
theorem impl_CountByArea.yes (k : Nat) (a0 : Int) (l : List Int) (w : World) (hn : 0 ≤ a0 ∧ a0 ≤ 15) (A2 : Aside0 (impl_isPairs.f a0 = some true)) (A3 : Aside0 (impl_numbers.f k (wrap64 (a0 * a0)) (fun x => impl_CountByArea.of a0 x) = some l)) :
    Calls Tryd.prog 12 #[.int .i64 a0] w fun e w' => ∃ v0_ : Value, e = .returned (.tuple #[v0_, .bool true]) ∧ Kd.R (Kd.int .i64) 3 w' w.heap.size (fun _ => True) v0_ l ∧ Below w.heap.size w w' := by
  have HB := Aside0.mk (Below.refl w.heap.size w)
  have hmf : ∀ (fn : Fn) (first cap : Array Value) (w : World), (Instr.makeFunc fn first cap).run Tryd.prog w = .ok (.func fn first cap) w := fun _ _ _ _ => rfl
  have hmm := @run_makeMap Tryd.prog
  obtain ⟨kl0, hk0⟩ := impl_CountByArea_1.key 0 0 (by decide) (by decide)
  obtain ⟨w2, hins, hT1, hg1⟩ := (Tells.made (P := Tryd.prog) (K := 48) (E := 3) (bd := impl_CountByArea.bd 0) w).put (t := 49) (x := 0) (y := 0) (c := 1) impl_CountByArea_1.law Tryd.underlying49 Tryd.underlying3 (by decide) hk0 (by decide) (by unfold impl_CountByArea.bd; omega)
  unfold pv at hins
  go_enter Tryd.func12, Tryd.ntmps12
  go_wp2_with (first | ((with_reducible refine gate_callee (f := 33) rfl ?_); refine goesL_ (some 5) rfl rfl Tryd.func33 (by kernel_rfl) rfl #[.int .i64 a0] rfl (by (try simp only [List.map_toArray, List.map_cons, List.map_nil]); first | done | rfl | (simp only [List.length_drop, List.length_take]; rfl)) ?_; (with_reducible refine (impl_isPairs.calls a0 true _ A2.out).mono ?_); rintro e w' ⟨rfl, ⟨nd, rfl⟩⟩; refine ⟨_, rfl, ?_⟩) | go_in)
  go_loopw [19] (fun v19 wr => ∃ (i : Nat) (m : Nat), v19 = .int .i64 (i : Int) ∧ (i : Int) ≤ 2 * a0 ∧ Bx wr w2.heap.size 49 (.map (some m)) ∧ Tells Tryd.prog 48 3 wr m (2 ^ i) (impl_CountByArea.at a0 i) (impl_CountByArea.bd i) ∧ w.heap.size ≤ m ∧ m ≠ w2.heap.size ∧ Below w.heap.size w wr)
    (fun v19 wr => impl_CountByArea.ms a0 v19)
  case atStart =>
    have hs1 : w.heap.size + 1 ≤ w2.heap.size := by have := hg1.size; simpa using this
    exact ⟨0, w.heap.size, rfl, by omega, Bx.new w2 _ _, hT1.alloc _, Nat.le_refl _, by omega, (((Below.refl w.heap.size w).alloc (Nat.le_refl _) _).grown hg1 (by simp) (fun j hj => by cases hj; exact Nat.le_refl _)).alloc (by omega) _⟩
  case round =>
    obtain ⟨i, m, rfl, hi, hC, hT, hm, hmC, hB⟩ := hrel
    by_cases c : (i : Int) < 2 * a0
    · have hCl := hC.lt
      have hmlt := hT.lt
      have hCc := hC.cell
      obtain ⟨w3, gone, cnt, hrange, hU, hz, hg3, hs3⟩ := (hT.alloc (.map #[] 0)).range impl_CountByArea_1.law Tryd.underlying49
      have hN : Tells Tryd.prog 48 3 w3 wr.heap.size 0 (fun _ _ => 0) (impl_CountByArea.bd (i + 1)) := (Tells.made wr).kept hg3 (by simp)
      have hC0 : Bx (wr.alloc (.map #[] 0)) w2.heap.size 49 (.map (some m)) := hC.kept (World.grownBy_alloc wr _ none) (by simp)
      have hC1 := hC0.cell
      have e1 : (wr.alloc (.map #[] 0)).heap.size = wr.heap.size + 1 := by simp
      rw [e1] at hrange hU hs3
      have hB3 : Below w.heap.size w w3 := (hB.alloc hB.size _).grown hg3 (by have := hB.size; omega) (fun j hj => by cases hj)
      have cb : decide ((i : Int) < 2 * a0) = true := decide_eq_true c
      obtain ⟨nb, hnb⟩ : ∃ nb, wr.heap.size = nb := ⟨_, rfl⟩
      have hnbw : w.heap.size ≤ nb := by have := hB.size; omega
      go_wp2
      go_loopw [25] (fun _ wq => ∃ (gone : Int → Int → Bool) (cnt n : Nat), Under Tryd.prog 48 3 wq m (wr.heap.size + 1) (2 ^ i) (impl_CountByArea.at a0 i) (impl_CountByArea.bd i) gone cnt ∧ Tells Tryd.prog 48 3 wq wr.heap.size n (nx gone (impl_CountByArea.at a0 i) (2 * a0 - i - 1)) (impl_CountByArea.bd (i + 1)) ∧ n + 2 * cnt ≤ 2 ^ (i + 1) ∧ Bx wq w2.heap.size 49 (.map (some m)) ∧ Below w.heap.size w wq ∧ wr.heap.size + 2 ≤ wq.heap.size)
        (fun _ wq => wq.rangeLeft m (wr.heap.size + 1))
      case atStart =>
        refine ⟨gone, cnt, 0, hU, hN.congr (fun x y kl _ => (impl_CountByArea.nx_start hn.2 (by omega) hz x y).symm), ?_, ?_, hB3, by omega⟩
        · have := hU.cnt_le; rw [Nat.pow_succ]; omega
        · exact hC0.kept hg3 (by simp)
      case round =>
        obtain ⟨gone, cnt, n, hU, hN, hcn, hC2, hB2, hs2⟩ := hrel
        rw [hnb] at hU hN hs2
        rcases hU.next impl_CountByArea_1.law Tryd.underlying3 0 with ⟨h0, hall, hrun⟩ | ⟨x, y, kl, w4, cnt', hkey, hgx, hbd, hwf, hrun, hU4, hlt, hg4, hs4, hen⟩
        · have c2 := hC2.cell
          have f2 := hC2.frozen
          go_wp2
          go_roundw
          case rel =>
            have hNe := hN.congr (fun x y kl hk => impl_CountByArea.nx_end (n := a0) hn.2 (i := i) (by omega) hall x y)
            exact ⟨i + 1, nb, by simp, by omega, hC2.set _, (hNe.mono (by omega)).setCell (by simp; omega) _, by have := hB.size; omega, by omega, hB2.setCell (by have := hg1.size; simp at this; simp; omega) _⟩
          case measure => rw [impl_CountByArea.ms_int, impl_CountByArea.ms_int]; omega
        have hwS := hB.size
        have hC4 : Bx w4 w2.heap.size 49 (.map (some m)) := hC2.kept hg4 (by simp; omega)
        have hN4 := hN.kept hg4 (by simp)
        have hB4 := hB2.grown hg4 (by omega) (fun j hj => by cases hj; omega)
        obtain ⟨⟨hx0, hx1⟩, hy0, hy1⟩ := hbd
        have hi30 : (i : Int) ≤ 30 := by omega
        unfold pv at hrun hen
        obtain ⟨pb, hpb⟩ : ∃ pb, wr.heap.size = pb := ⟨_, rfl⟩
        rw [hpb] at hs4 hs2
        go_wp2
        go_loopw [38] (fun v38 wi => ∃ j : Nat, v38 = .int .i64 (j : Int) ∧ j ≤ 2 ∧ Under Tryd.prog 48 3 wi m (nb + 1) (2 ^ i) (impl_CountByArea.at a0 i) (impl_CountByArea.bd i) (fun a b => gone a b || (decide (a = x) && decide (b = y))) cnt' ∧ Tells Tryd.prog 48 3 wi nb (n + j) (impl_CountByArea.fj (2 * a0 - i - 1) x y (impl_CountByArea.at a0 i x y) (nx gone (impl_CountByArea.at a0 i) (2 * a0 - i - 1)) j) (impl_CountByArea.bd (i + 1)) ∧ Bx wi w2.heap.size 49 (.map (some m)) ∧ Below w.heap.size w wi ∧ wi.cell? ⟨pb, 1, none⟩ = some (.int .i64 y) ∧ wi.cell? ⟨pb + 1, 0, none⟩ = some (.int .i64 (x - 1)) ∧ wi.cell? ⟨pb + 1, 1, none⟩ = some (.int .i64 (x + 1)) ∧ pb + 2 ≤ wi.heap.size)
          (fun v38 _ => impl_CountByArea.ms 1 v38)
        case atStart =>
          have ga := World.grownBy_alloc w4 (Obj.cells #[Value.int IntKind.i64 x, Value.int IntKind.i64 y] 48) none
          have gb := World.grownBy_alloc (w4.alloc (Obj.cells #[Value.int IntKind.i64 x, Value.int IntKind.i64 y] 48)) (Obj.cells #[Value.int IntKind.i64 (x - 1), Value.int IntKind.i64 (x + 1)] 3) none
          refine ⟨0, rfl, by omega, (hU4.kept ga (by simp) (by simp)).kept gb (by simp) (by simp), (hN4.kept ga (by simp)).kept gb (by simp), (hC4.kept ga (by simp)).kept gb (by simp), (hB4.grown ga (by omega) (fun j hj => by cases hj)).grown gb (by simp; omega) (fun j hj => by cases hj), ?_, ?_, ?_, ?_⟩
          · exact kept_cell (a := ⟨pb, 1, none⟩) (by rw [← hs4]; exact (blk_cell (blk_new w4 (.cells #[.int .i64 x, .int .i64 y] 48)) 1).trans rfl) gb (by simp)
          · have e2 : pb + 1 = (w4.alloc (Obj.cells #[Value.int IntKind.i64 x, Value.int IntKind.i64 y] 48)).heap.size := by simp; omega
            rw [e2]
            exact (blk_cell (blk_new _ (.cells #[.int .i64 (x - 1), .int .i64 (x + 1)] 3)) 0).trans rfl
          · have e2 : pb + 1 = (w4.alloc (Obj.cells #[Value.int IntKind.i64 x, Value.int IntKind.i64 y] 48)).heap.size := by simp; omega
            rw [e2]
            exact (blk_cell (blk_new _ (.cells #[.int .i64 (x - 1), .int .i64 (x + 1)] 3)) 1).trans rfl
          · simp; omega
        case round =>
          obtain ⟨j, rfl, hj, hU5, hN5, hC5, hB5, hp1, hs0, hs1, hsz⟩ := hrel
          by_cases cj : j < 2
          · obtain ⟨h, hh⟩ : ∃ h, Aside0 (h = impl_CountByArea.hh x j) := ⟨_, ⟨rfl⟩⟩
            have hhb : -1 ≤ h ∧ h ≤ 31 := by rw [hh.out]; unfold impl_CountByArea.hh; split <;> omega
            have hcell : ∀ p : Nat, p = j → wr.cell? ⟨pb + 1, p, none⟩ = some (.int .i64 h) := by
              rintro p rfl
              rw [hh.out]
              unfold impl_CountByArea.hh
              by_cases j0 : p = 0
              · subst j0; exact hs0
              · obtain rfl : p = 1 := by omega
                exact hs1
            have cb2 : decide ((j : Int) < 2) = true := decide_eq_true (by omega)
            have hws := hB5.size
            by_cases hin : 0 ≤ h ∧ h ≤ 2 * a0 - i - 1
            · have d1 : decide (0 ≤ h) = true := decide_eq_true hin.1
              have d2 : decide (h ≤ 2 * a0 - i - 1) = true := decide_eq_true hin.2
              obtain ⟨kl5, hk5⟩ := impl_CountByArea_1.key h (y + h) (WalkArith.wf_i64 (by omega)) (WalkArith.wf_i64 (by omega))
              have hbd5 : impl_CountByArea.bd (i + 1) h (y + h) := by unfold impl_CountByArea.bd; omega
              have hN5' := hN5.drew
              obtain ⟨w6, old, st, hme, hg6, hs6, hT6, hst⟩ := hN5'.entry impl_CountByArea_1.law Tryd.underlying49 Tryd.underlying3 (impl_CountByArea_1.zero _) (Nat.lt_of_le_of_lt (show n + j ≤ 2 ^ (i + 1) + 2 by omega) (by have : (2 : Nat) ^ (i + 1) ≤ 2 ^ 31 := Nat.pow_le_pow_right (by omega) (by omega); unfold maxLen; omega)) hk5 hbd5
              obtain ⟨hlk, _⟩ := hN5'.look impl_CountByArea_1.law Tryd.underlying49 Tryd.underlying3 (impl_CountByArea_1.zero _) hk5
              obtain ⟨hlk6, _⟩ := hT6.look impl_CountByArea_1.law Tryd.underlying49 Tryd.underlying3 (impl_CountByArea_1.zero _) hk5
              obtain ⟨w7, hes, hT7, hg7, hs7⟩ := hst _ (wrap64_wf (impl_CountByArea.fj (2 * a0 - i - 1) x y (impl_CountByArea.at a0 i x y) (nx gone (impl_CountByArea.at a0 i) (2 * a0 - i - 1)) j h (y + h) + impl_CountByArea.at a0 i x y)) w6 rfl
              unfold pv at hme hlk hlk6
              go_wp2
              go_region
              go_wp2
              go_roundw
              case rel =>
                have gd : wr.grownBy wr.drew (some nb) := ⟨rfl, rfl, rfl, Nat.le_refl _, fun _ _ _ => rfl⟩
                have gall : wr.grownBy w7 (some nb) := (gd.trans hg6).trans hg7
                exact ⟨j + 1, by simp, by omega, hU5.kept gall (by simp; omega) (by simp), hT7.congr (fun p q _ _ => (impl_CountByArea.fj_in hh.out hin p q).symm), hC5.kept gall (by simp; omega), hB5.grown gall (by omega) (fun r hr => by cases hr; omega), kept_cell hp1 gall (by simp; omega), kept_cell hs0 gall (by simp; omega), kept_cell hs1 gall (by simp; omega), by have := gall.size; omega⟩
              case measure => rw [impl_CountByArea.ms_int, impl_CountByArea.ms_int]; omega
            · by_cases h0 : 0 ≤ h
              · have d1 : decide (0 ≤ h) = true := decide_eq_true h0
                have d2 : decide (h ≤ 2 * a0 - i - 1) = false := decide_eq_false (fun q => hin ⟨h0, q⟩)
                go_wp2
                go_roundw
                case rel => exact ⟨j + 1, by simp, by omega, hU5, by rw [impl_CountByArea.fj_out hh.out hin]; exact hN5.mono (by omega), hC5, hB5, hp1, hs0, hs1, hsz⟩
                case measure => rw [impl_CountByArea.ms_int, impl_CountByArea.ms_int]; omega
              · have d1 : decide (0 ≤ h) = false := decide_eq_false h0
                go_wp2
                go_roundw
                case rel => exact ⟨j + 1, by simp, by omega, hU5, by rw [impl_CountByArea.fj_out hh.out hin]; exact hN5.mono (by omega), hC5, hB5, hp1, hs0, hs1, hsz⟩
                case measure => rw [impl_CountByArea.ms_int, impl_CountByArea.ms_int]; omega
          · obtain rfl : j = 2 := by omega
            go_wp2
            rw [hnb]
            exact ⟨⟨_, cnt', n + 2, hU5, hN5.congr (fun p q kl _ => by rw [impl_CountByArea.fj_two]; exact (nx_step gone _ _ x y hgx p q).symm), by omega, hC5, hB5, by omega⟩, by rw [hU5.left, hU.left]; exact hlt⟩
    · have cb : decide ((i : Int) < 2 * a0) = false := decide_eq_false c
      have HB := Aside0.mk hB
      obtain rfl : i = (2 * a0).toNat := by omega
      go_wp2_with (first | ((with_reducible refine gate_callee (f := 34) rfl ?_); refine goesL_ (some 68) rfl rfl Tryd.func34 (by kernel_rfl) rfl #[.int .i64 (wrap64 (a0 * a0)), .func (.func 46) #[] #[.pointer (some ⟨w2.heap.size, 0, none⟩)]] rfl (by (try simp only [List.map_toArray, List.map_cons, List.map_nil]); first | done | rfl | (simp only [List.length_drop, List.length_take]; rfl)) ?_; refine (impl_numbers.calls k (wrap64 (a0 * a0)) 46 #[.pointer (some ⟨w2.heap.size, 0, none⟩)] (fun x => impl_CountByArea.of a0 x) l _ (ent_of Tryd.func46 (by kernel_rfl) rfl) ?hof A3.out).mono ?_; (case hof => intro x t W hb ht; exact impl_CountByArea.hof hC hT x t W hb ht); rintro e w5 ⟨v0, rfl, hr, hb⟩; refine ⟨_, rfl, ?_⟩; have n0_ := Aside0.mk (Kd.R_lower hr (below_size (by repeat (first | (with_reducible first | exact HB.out | apply below_alloc | apply pw_below_drewN | apply below_drew1) | exact HB.out)))); have n1_ := Aside0.mk (below_step (by repeat (first | (with_reducible first | exact HB.out | apply below_alloc | apply pw_below_drewN | apply below_drew1) | exact HB.out)) hb); clear HB; have HO := n0_; have HB := n1_; clear n0_ n1_; clear hr hb))
      go_ret2
      exact ⟨_, by first | rfl | (simp; done) | (simp [*]; done), by (with_reducible repeat (first | apply Kd.R_alloc | apply Kd.R_drewN | apply Kd.R_drew)); exact HO.out, (by repeat (first | (with_reducible first | exact HB.out | apply below_alloc | apply pw_below_drewN | apply below_drew1) | exact HB.out))⟩
set_option maxHeartbeats 2000000 in
set_option maxRecDepth 100000 in
theorem impl_CountByArea.calls (k : Nat) (a0 : Int) (r1 : List Int) (r2 : Bool) (w : World) (h : impl_CountByArea.f k a0 = some (r1, r2)) :
    Calls Tryd.prog 12 #[.int .i64 a0] w fun e w' => ∃ v0_ : Value, e = .returned (.tuple #[v0_, .bool r2]) ∧ Kd.R (Kd.int .i64) 3 w' w.heap.size (fun _ => True) v0_ r1 ∧ Below w.heap.size w w' := by
  have HB := Aside0.mk (Below.refl w.heap.size w)
  have hmf : ∀ (fn : Fn) (first cap : Array Value) (w : World), (Instr.makeFunc fn first cap).run Tryd.prog w = .ok (.func fn first cap) w := fun _ _ _ _ => rfl
  have H := h
  clear h
  unfold impl_CountByArea.f at H
  replace H := Option.bind_eq_some_iff.mp H
  obtain ⟨t159, A20, H⟩ := H
  have A2 := Aside0.mk A20
  clear A20
  by_cases c3 : t159 = true
  · subst c3
    rw [if_pos rfl] at H
    replace H := Option.bind_eq_some_iff.mp H
    obtain ⟨l, A30, H⟩ := H
    have A3 := Aside0.mk A30
    clear A30
    simp only [Option.some.injEq, Prod.mk.injEq] at H
    obtain ⟨rfl, rfl⟩ := H
    exact impl_CountByArea.yes k a0 _ w (impl_CountByArea.pairs A2.out) A2 A3
  · replace c3 := Bool.eq_false_iff.mpr c3
    subst c3
    rw [if_neg (show ¬ (false = true) by decide)] at H
    simp only [Option.some.injEq, Prod.mk.injEq] at H
    obtain ⟨rfl, rfl⟩ := H
    go_enter Tryd.func12, Tryd.ntmps12
    go_wp2_with (first | ((with_reducible refine gate_callee (f := 33) rfl ?_); refine goesL_ (some 12) rfl rfl Tryd.func33 (by kernel_rfl) rfl #[.int .i64 a0] rfl (by (try simp only [List.map_toArray, List.map_cons, List.map_nil]); first | done | rfl | (simp only [List.length_drop, List.length_take]; rfl)) ?_; (with_reducible refine (impl_isPairs.calls a0 false _ A2.out).mono ?_); rintro e w' ⟨rfl, ⟨nd, rfl⟩⟩; refine ⟨_, rfl, ?_⟩))
    go_ret2
    exact ⟨_, by first | rfl | (simp; done) | (simp [*]; done), Kd.R_nil _ _ _ _ _, (by repeat (first | (with_reducible first | exact HB.out | apply below_alloc | apply pw_below_drewN | apply below_drew1) | exact HB.out))⟩

end Go.Proofs.YtjjkglfpcdedlabDoor.QFnGoodPathsSorted
