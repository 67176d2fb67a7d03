/- Written by a program of this repo (xprint: a turned copy of the kit's print, with our own templates in it); Lean checks all of it. -/
import Derived.Test.YtfjpejdlgmlmhaaQFnExactColumnsOfx0
import Derived.Test.YtfjpejdlgmlmhaaQFnExactColumnsOfx3
namespace Go.Proofs.Ytfjpejdlgmlmhaa.QFnExactColumnsOf
open Go.RowKit Go.Proofs.YtfjpejdlgmlmhaaZ Go.Proofs.YtfjpejdlgmlmhaaW.PrintWords Go.Proofs.YtfjpejdlgmlmhaaW.PrintLast Go.Proofs.YtfjpejdlgmlmhaaW.PrintMore
attribute [local go_sem] max2_int min2_int max_two min_two max_three min_three max_four min_four   -- for this text's walks alone
set_option linter.unusedVariables false
set_option linter.unusedSimpArgs false

/-! ### impl_ColumnsOf: function 15 -/
mutual
def impl_ColumnsOf.j0 : Nat → Bool → Int → Int → Int → Int → Option (List Int × Bool)
  | 0, _, _, _, _, _ => none
  | k + 1, x21, x139000, x139001, x139002, x139003 => if x21 = true then (some (([] : List Int), false)) else (impl_ColumnsOf.l0 k 0 0 0 0 0 x139000 x139001 x139002 x139003)
def impl_ColumnsOf.l0 : Nat → Int → Int → Int → Int → Int → Int → Int → Int → Int → Option (List Int × Bool)
  | 0, _, _, _, _, _, _, _, _, _ => none
  | k + 1, x24, x140000, x140001, x140002, x140003, x900024000, x900024001, x900024002, x900024003 => if x24 < 4 then (if 0 ≤ x24 then (if x24 = 0 then (impl_ColumnsOf.l1 k x24 x900024000 0 x140000 x140001 x140002 x140003 x900024000 x900024001 x900024002 x900024003) else (if x24 = 1 then (impl_ColumnsOf.l1 k x24 x900024001 0 x140000 x140001 x140002 x140003 x900024000 x900024001 x900024002 x900024003) else (if x24 = 2 then (impl_ColumnsOf.l1 k x24 x900024002 0 x140000 x140001 x140002 x140003 x900024000 x900024001 x900024002 x900024003) else (if x24 = 3 then (impl_ColumnsOf.l1 k x24 x900024003 0 x140000 x140001 x140002 x140003 x900024000 x900024001 x900024002 x900024003) else (none))))) else (none)) else (some ([x140000, x140001, x140002, x140003], true))
def impl_ColumnsOf.l1 : Nat → Int → Int → Int → Int → Int → Int → Int → Int → Int → Int → Int → Option (List Int × Bool)
  | 0, _, _, _, _, _, _, _, _, _, _, _ => none
  | k + 1, x24, x27, x28, x140000, x140001, x140002, x140003, x900024000, x900024001, x900024002, x900024003 => if x28 < x27 then (if 0 ≤ x28 then (if x28 < 4 then (if x28 = 0 then (impl_ColumnsOf.l1 k x24 x27 (wrap64 (x28 + 1)) (wrap64 (x140000 + 1)) x140001 x140002 x140003 x900024000 x900024001 x900024002 x900024003) else (if x28 = 1 then (impl_ColumnsOf.l1 k x24 x27 (wrap64 (x28 + 1)) x140000 (wrap64 (x140001 + 1)) x140002 x140003 x900024000 x900024001 x900024002 x900024003) else (if x28 = 2 then (impl_ColumnsOf.l1 k x24 x27 (wrap64 (x28 + 1)) x140000 x140001 (wrap64 (x140002 + 1)) x140003 x900024000 x900024001 x900024002 x900024003) else (if x28 = 3 then (impl_ColumnsOf.l1 k x24 x27 (wrap64 (x28 + 1)) x140000 x140001 x140002 (wrap64 (x140003 + 1)) x900024000 x900024001 x900024002 x900024003) else (none))))) else (none)) else (none)) else (impl_ColumnsOf.l0 k (wrap64 (x24 + 1)) x140000 x140001 x140002 x140003 x900024000 x900024001 x900024002 x900024003)
end
def impl_ColumnsOf.f (k : Nat) (l0 : List Int) : Option (List Int × Bool) := (impl_resultOf.f k l0).bind fun bt133 => (if bt133.2.2.2.2 = true then (impl_ColumnsOf.j0 k (decide (bt133.1 > 4)) bt133.1 bt133.2.1 bt133.2.2.1 bt133.2.2.2.1) else (impl_ColumnsOf.j0 k true bt133.1 bt133.2.1 bt133.2.2.1 bt133.2.2.2.1))
theorem impl_ColumnsOf.mono_l : ∀ k, (∀ y0 y1 y2 y3 y4, LeO (impl_ColumnsOf.j0 k y0 y1 y2 y3 y4) (impl_ColumnsOf.j0 (k + 1) y0 y1 y2 y3 y4)) ∧ (∀ y0 y1 y2 y3 y4 y5 y6 y7 y8, LeO (impl_ColumnsOf.l0 k y0 y1 y2 y3 y4 y5 y6 y7 y8) (impl_ColumnsOf.l0 (k + 1) y0 y1 y2 y3 y4 y5 y6 y7 y8)) ∧ (∀ y0 y1 y2 y3 y4 y5 y6 y7 y8 y9 y10, LeO (impl_ColumnsOf.l1 k y0 y1 y2 y3 y4 y5 y6 y7 y8 y9 y10) (impl_ColumnsOf.l1 (k + 1) y0 y1 y2 y3 y4 y5 y6 y7 y8 y9 y10))
  | 0 => ⟨fun _ _ _ _ _ r h => by simp [impl_ColumnsOf.j0] at h, fun _ _ _ _ _ _ _ _ _ r h => by simp [impl_ColumnsOf.l0] at h, fun _ _ _ _ _ _ _ _ _ _ _ r h => by simp [impl_ColumnsOf.l1] at h⟩
  | k + 1 => by
    obtain ⟨ih0, ih1, ih2⟩ := impl_ColumnsOf.mono_l k
    refine ⟨?_, ?_, ?_⟩
    · intro y0 y1 y2 y3 y4
      unfold impl_ColumnsOf.j0
      repeat' first
      | (with_reducible exact ih0 _ _ _ _ _)
      | (with_reducible exact ih1 _ _ _ _ _ _ _ _ _)
      | (with_reducible exact ih2 _ _ _ _ _ _ _ _ _ _ _)
      | (with_reducible exact impl_resultOf.mono _ _)
      | (with_reducible exact LeO.refl _)
      | (with_reducible exact LeO.none _)
      | (with_reducible refine LeO.ite ?_ ?_)
      | (with_reducible refine LeO.bind ?_ (fun _ => ?_))
      | exact ih0 _ _ _ _ _
      | exact ih1 _ _ _ _ _ _ _ _ _
      | exact ih2 _ _ _ _ _ _ _ _ _ _ _
      | exact impl_resultOf.mono _ _
      | exact LeO.none _
      | refine LeO.ite ?_ ?_
      | refine LeO.bind ?_ (fun _ => ?_)
    · intro y0 y1 y2 y3 y4 y5 y6 y7 y8
      unfold impl_ColumnsOf.l0
      repeat' first
      | (with_reducible exact ih0 _ _ _ _ _)
      | (with_reducible exact ih1 _ _ _ _ _ _ _ _ _)
      | (with_reducible exact ih2 _ _ _ _ _ _ _ _ _ _ _)
      | (with_reducible exact impl_resultOf.mono _ _)
      | (with_reducible exact LeO.refl _)
      | (with_reducible exact LeO.none _)
      | (with_reducible refine LeO.ite ?_ ?_)
      | (with_reducible refine LeO.bind ?_ (fun _ => ?_))
      | exact ih0 _ _ _ _ _
      | exact ih1 _ _ _ _ _ _ _ _ _
      | exact ih2 _ _ _ _ _ _ _ _ _ _ _
      | exact impl_resultOf.mono _ _
      | exact LeO.none _
      | refine LeO.ite ?_ ?_
      | refine LeO.bind ?_ (fun _ => ?_)
    · intro y0 y1 y2 y3 y4 y5 y6 y7 y8 y9 y10
      unfold impl_ColumnsOf.l1
      repeat' first
      | (with_reducible exact ih0 _ _ _ _ _)
      | (with_reducible exact ih1 _ _ _ _ _ _ _ _ _)
      | (with_reducible exact ih2 _ _ _ _ _ _ _ _ _ _ _)
      | (with_reducible exact impl_resultOf.mono _ _)
      | (with_reducible exact LeO.refl _)
      | (with_reducible exact LeO.none _)
      | (with_reducible refine LeO.ite ?_ ?_)
      | (with_reducible refine LeO.bind ?_ (fun _ => ?_))
      | exact ih0 _ _ _ _ _
      | exact ih1 _ _ _ _ _ _ _ _ _
      | exact ih2 _ _ _ _ _ _ _ _ _ _ _
      | exact impl_resultOf.mono _ _
      | exact LeO.none _
      | refine LeO.ite ?_ ?_
      | refine LeO.bind ?_ (fun _ => ?_)
theorem impl_ColumnsOf.mono : ∀ a0 k, LeO (impl_ColumnsOf.f k a0) (impl_ColumnsOf.f (k + 1) a0) := by
  intro a0 k
  obtain ⟨ih0, ih1, ih2⟩ := impl_ColumnsOf.mono_l k
  unfold impl_ColumnsOf.f
  repeat' first
      | (with_reducible exact ih0 _ _ _ _ _)
      | (with_reducible exact ih1 _ _ _ _ _ _ _ _ _)
      | (with_reducible exact ih2 _ _ _ _ _ _ _ _ _ _ _)
      | (with_reducible exact impl_resultOf.mono _ _)
      | (with_reducible exact LeO.refl _)
      | (with_reducible exact LeO.none _)
      | (with_reducible refine LeO.ite ?_ ?_)
      | (with_reducible refine LeO.bind ?_ (fun _ => ?_))
      | exact ih0 _ _ _ _ _
      | exact ih1 _ _ _ _ _ _ _ _ _
      | exact ih2 _ _ _ _ _ _ _ _ _ _ _
      | exact impl_resultOf.mono _ _
      | exact LeO.none _
      | refine LeO.ite ?_ ?_
      | refine LeO.bind ?_ (fun _ => ?_)
set_option maxHeartbeats 8000000 in
set_option maxRecDepth 100000 in
theorem impl_ColumnsOf.calls (k : Nat) (A0 : Option Addr) (c0 : Nat) (l0 : List Int) (r1 : List Int) (r2 : Bool) (w : World) (hr0 : Kd.C (Kd.int .i64) w A0 l0.length l0) (hc0 : l0.length ≤ c0) (h : impl_ColumnsOf.f k l0 = some (r1, r2)) :
    Calls Try.prog 15 #[.slice A0 l0.length c0] w fun e w' => ∃ v0_ : Value, e = .returned (.tuple #[v0_, .bool r2]) ∧ Kd.R (Kd.int .i64) 45 w' w.heap.size (fun _ => True) v0_ r1 ∧ Below w.heap.size w w' := by
  have hu45 := Try.underlying45
  have HR0 := Aside0.mk hr0
  have HC0 := Aside0.mk hc0
  clear hr0 hc0
  have HB := Aside0.mk (Below.refl w.heap.size w)
  have H : ((impl_resultOf.f k l0).bind fun bt133 => (if bt133.2.2.2.2 = true then (impl_ColumnsOf.j0 k (decide (bt133.1 > 4)) bt133.1 bt133.2.1 bt133.2.2.1 bt133.2.2.2.1) else (impl_ColumnsOf.j0 k true bt133.1 bt133.2.1 bt133.2.2.1 bt133.2.2.2.1))) = some (r1, r2) := h
  clear h
  replace H := Option.bind_eq_some_iff.mp H
  obtain ⟨⟨t133, t134, t135, t136, t137⟩, A20, H⟩ := H
  replace H : (if t137 = true then (impl_ColumnsOf.j0 k (decide (t133 > 4)) t133 t134 t135 t136) else (impl_ColumnsOf.j0 k true t133 t134 t135 t136)) = some (r1, r2) := H
  have A2 := Aside0.mk A20
  clear A20
  have HC3 := Aside0.mk H
  clear H
  go_enter Try.func15, Try.ntmps15
  go_upto_region 2 with (first | ((with_reducible refine gate_callee (f := 35) rfl ?_); refine goesL_ (some 12) rfl rfl Try.func35 (by kernel_rfl) rfl #[.slice A0 l0.length c0] rfl (by (try simp only [List.map_toArray, List.map_cons, List.map_nil]); first | done | rfl | (simp only [List.length_drop, List.length_take]; rfl)) ?_; (with_reducible refine (impl_resultOf.calls k _ _ l0 t133 t134 t135 t136 t137 _ ?side1 ?side2 A2.out).mono ?_); (case side1 => repeat (first | exact HR0.out | (with_reducible refine Kd.C_alloc ?_ _) | (with_reducible refine Kd.C_drewN ?_ _) | (with_reducible refine Kd.C_drew ?_))); (case side2 => exact HC0.out); rintro e w4 ⟨rfl, hb⟩; refine ⟨_, rfl, ?_⟩; have n0_ := Aside0.mk (below_step (by repeat (first | (with_reducible first | exact HB.out | apply below_alloc | apply pw_below_drewN | apply below_drew1) | exact HB.out)) hb); clear HB; have HB := n0_; clear n0_; (try clear hb); (try clear hb2); (try clear hk); (try clear hi)) | ((with_reducible refine gate_dst (N := 4) rfl ?_); refine box_event ?hg (N := 4) ?hd (cs := #[.int .i64 0, .int .i64 0, .int .i64 0, .int .i64 0]) (t := 45) ?hr ?_; (case hd => rfl); (case hg => rfl); (case hr => first | (go_simp; done) | (go_simp; rfl)); intro gb138 hg w5 hbox hb; have n0_ := Aside0.mk (below_step (by repeat (first | (with_reducible first | exact HB.out | apply below_alloc | apply pw_below_drewN | apply below_drew1) | exact HB.out)) hb); have n1_ := Aside0.mk (hbox); have n2_ := Aside0.mk ((by rw [hg]; exact (below_size (by repeat (first | (with_reducible first | exact HB.out | apply below_alloc | apply pw_below_drewN | apply below_drew1) | exact HB.out))) : w.heap.size ≤ gb138)); have n3_ := Aside0.mk ((by rw [hg]; exact (below_size (by repeat (first | (with_reducible first | exact HB.out | apply below_alloc | apply pw_below_drewN | apply below_drew1) | exact HB.out))) : w.heap.size ≤ gb138)); clear HB; have HB := n0_; have BK138 := n1_; have GW138 := n2_; have GE138 := n3_; clear n0_ n1_ n2_ n3_; clear hb hbox hg; have hcz6_0 : w5.cell? ⟨gb138, 0, none⟩ = some (.int .i64 0) := (blk_cell BK138.out 0).trans rfl; have hcz6_1 : w5.cell? ⟨gb138, 1, none⟩ = some (.int .i64 0) := (blk_cell BK138.out 1).trans rfl; have hcz6_2 : w5.cell? ⟨gb138, 2, none⟩ = some (.int .i64 0) := (blk_cell BK138.out 2).trans rfl; have hcz6_3 : w5.cell? ⟨gb138, 3, none⟩ = some (.int .i64 0) := (blk_cell BK138.out 3).trans rfl; have hfz6_0 := blk_frozen BK138.out 0; have hfz6_1 := blk_frozen BK138.out 1; have hfz6_2 := blk_frozen BK138.out 2; have hfz6_3 := blk_frozen BK138.out 3))
  (try simp only [Act.put, List.setIfInBounds_toArray, List.set_cons_zero, List.set_cons_succ])
  go_cut [21] (fun v21 wc => ∃ (kq : Nat) (x21_2 : Bool), v21 = .bool x21_2 ∧ Aside0 (impl_ColumnsOf.j0 kq x21_2 t133 t134 t135 t136 = some (r1, r2)) ∧ Aside0 (kq ≤ k) ∧ Aside0 (wc.heap[gb138]? = some (.cells #[.int .i64 t133, .int .i64 t134, .int .i64 t135, .int .i64 t136] 45 (0, 0))) ∧ Aside0 (Below w.heap.size w wc))
  case first =>
    have H := HC3.out
    clear HC3
    by_cases c7 : t137 = true
    · subst c7
      have H1 : (impl_ColumnsOf.j0 k (decide (t133 > 4)) t133 t134 t135 t136) = some (r1, r2) := by rw [if_pos rfl] at H; exact H
      clear H
      have H := H1
      clear H1
      have H' := Aside0.mk H
      clear H
      have hcz8_0 : w5.cell? ⟨gb138, 0, none⟩ = some (.int .i64 0) := (blk_cell BK138.out 0).trans rfl
      have hcz8_1 : w5.cell? ⟨gb138, 1, none⟩ = some (.int .i64 0) := (blk_cell BK138.out 1).trans rfl
      have hcz8_2 : w5.cell? ⟨gb138, 2, none⟩ = some (.int .i64 0) := (blk_cell BK138.out 2).trans rfl
      have hcz8_3 : w5.cell? ⟨gb138, 3, none⟩ = some (.int .i64 0) := (blk_cell BK138.out 3).trans rfl
      have hfz8_0 := blk_frozen BK138.out 0
      have hfz8_1 := blk_frozen BK138.out 1
      have hfz8_2 := blk_frozen BK138.out 2
      have hfz8_3 := blk_frozen BK138.out 3
      go_wp2
      go_meet
      case rel => exact ⟨_, (decide (t133 > 4)), (by first | rfl | (simp; done) | (simp [*]; done)), H', ⟨by first | omega | exact Nat.le_refl _⟩, ⟨by (with_reducible repeat (first | refine blk_drewN ?_ _ | refine blk_drew ?_ | refine blk_alloc ?_ _)); refine blk_put (cs := #[.int .i64 t133, .int .i64 t134, .int .i64 t135, .int .i64 0]) ?_ 3 _ rfl; (with_reducible repeat (first | refine blk_drewN ?_ _ | refine blk_drew ?_ | refine blk_alloc ?_ _)); refine blk_put (cs := #[.int .i64 t133, .int .i64 t134, .int .i64 0, .int .i64 0]) ?_ 2 _ rfl; (with_reducible repeat (first | refine blk_drewN ?_ _ | refine blk_drew ?_ | refine blk_alloc ?_ _)); refine blk_put (cs := #[.int .i64 t133, .int .i64 0, .int .i64 0, .int .i64 0]) ?_ 1 _ rfl; (with_reducible repeat (first | refine blk_drewN ?_ _ | refine blk_drew ?_ | refine blk_alloc ?_ _)); refine blk_put (cs := #[.int .i64 0, .int .i64 0, .int .i64 0, .int .i64 0]) ?_ 0 _ rfl; (with_reducible repeat (first | refine blk_drewN ?_ _ | refine blk_drew ?_ | refine blk_alloc ?_ _)); exact BK138.out⟩, ⟨by repeat (first | (with_reducible first | exact HB.out | apply below_alloc | apply pw_below_drewN | apply below_drew1 | refine below_set ?_ GE138.out) | exact HB.out)⟩⟩
    · replace c7 := Bool.eq_false_iff.mpr c7
      subst c7
      have H1 : (impl_ColumnsOf.j0 k true t133 t134 t135 t136) = some (r1, r2) := by rw [if_neg (show ¬ (false = true) by decide)] at H; exact H
      clear H
      have H := H1
      clear H1
      have H' := Aside0.mk H
      clear H
      go_wp2
      go_meet
      case rel => exact ⟨_, (true), (by first | rfl | (simp; done) | (simp [*]; done)), H', ⟨by first | omega | exact Nat.le_refl _⟩, ⟨by (with_reducible repeat (first | refine blk_drewN ?_ _ | refine blk_drew ?_ | refine blk_alloc ?_ _)); refine blk_put (cs := #[.int .i64 t133, .int .i64 t134, .int .i64 t135, .int .i64 0]) ?_ 3 _ rfl; (with_reducible repeat (first | refine blk_drewN ?_ _ | refine blk_drew ?_ | refine blk_alloc ?_ _)); refine blk_put (cs := #[.int .i64 t133, .int .i64 t134, .int .i64 0, .int .i64 0]) ?_ 2 _ rfl; (with_reducible repeat (first | refine blk_drewN ?_ _ | refine blk_drew ?_ | refine blk_alloc ?_ _)); refine blk_put (cs := #[.int .i64 t133, .int .i64 0, .int .i64 0, .int .i64 0]) ?_ 1 _ rfl; (with_reducible repeat (first | refine blk_drewN ?_ _ | refine blk_drew ?_ | refine blk_alloc ?_ _)); refine blk_put (cs := #[.int .i64 0, .int .i64 0, .int .i64 0, .int .i64 0]) ?_ 0 _ rfl; (with_reducible repeat (first | refine blk_drewN ?_ _ | refine blk_drew ?_ | refine blk_alloc ?_ _)); exact BK138.out⟩, ⟨by repeat (first | (with_reducible first | exact HB.out | apply below_alloc | apply pw_below_drewN | apply below_drew1 | refine below_set ?_ GE138.out) | exact HB.out)⟩⟩
  case rest =>
    clear HC3
    try clear c1
    try clear p2
    try clear c3
    try clear c7
    try clear hcz6_0
    try clear hcz6_1
    try clear hcz6_2
    try clear hcz6_3
    try clear hcz8_0
    try clear hcz8_1
    try clear hcz8_2
    try clear hcz8_3
    try clear hfz6_0
    try clear hfz6_1
    try clear hfz6_2
    try clear hfz6_3
    try clear hfz8_0
    try clear hfz8_1
    try clear hfz8_2
    try clear hfz8_3
    obtain ⟨kq, x21_2, rfl, HA, HJ2, BK138, HB⟩ := hcut
    cases kq with
    | zero => exact absurd HA.out (by simp [impl_ColumnsOf.j0])
    | succ kj2 =>
      have H := HA.out
      clear HA
      simp only [impl_ColumnsOf.j0] at H
      by_cases c9 : x21_2 = true
      · subst c9
        have H1 : (some (([] : List Int), false)) = some (r1, r2) := by rw [if_pos rfl] at H; exact H
        clear H
        have H := H1
        clear H1
        simp only [Option.some.injEq, Prod.mk.injEq] at H
        obtain ⟨rfl, rfl⟩ := H
        go_wp2
        go_ret2
        exact ⟨_, by first | rfl | (simp [errW_none, errW_some] <;> rfl) | (simp [*, errW_none, errW_some] <;> rfl), by first | exact Kd.R_nil _ _ _ _ _ | exact Kd.N_nil _ _ _ _ _ | exact Kd.V_nil _ _ _ _ _ | exact Kd.Q_nil _ _ _ _ _ | exact Kd.S_nil _ _ _ _ _, by repeat (first | (with_reducible first | exact HB.out | apply below_alloc | apply pw_below_drewN | apply below_drew1 | refine below_set ?_ GE138.out) | exact HB.out)⟩
      · replace c9 := Bool.eq_false_iff.mpr c9
        subst c9
        have H1 : (impl_ColumnsOf.l0 kj2 0 0 0 0 0 t133 t134 t135 t136) = some (r1, r2) := by rw [if_neg (show ¬ (false = true) by decide)] at H; exact H
        clear H
        have H := H1
        clear H1
        have H' := Aside0.mk H
        clear H
        go_wp2_with (first | ((with_reducible refine gate_dst (N := 6) rfl ?_); refine box_event ?hg (N := 6) ?hd (cs := #[.int .i64 0, .int .i64 0, .int .i64 0, .int .i64 0]) (t := 45) ?hr ?_; (case hd => rfl); (case hg => rfl); (case hr => first | (go_simp; done) | (go_simp; rfl)); intro gb139 hg w10 hbox hb; have n0_ := Aside0.mk (blk_below (g := gb138) (o := .cells #[.int .i64 t133, .int .i64 t134, .int .i64 t135, .int .i64 t136] 45 (0, 0)) (by (with_reducible repeat (first | refine blk_drewN ?_ _ | refine blk_drew ?_ | refine blk_alloc ?_ _)); exact BK138.out) hb); have n1_ := Aside0.mk (below_step (by repeat (first | (with_reducible first | exact HB.out | apply below_alloc | apply pw_below_drewN | apply below_drew1 | refine below_set ?_ GE138.out) | exact HB.out)) hb); have n2_ := Aside0.mk (hbox); have n3_ := Aside0.mk ((by rw [hg]; exact (below_size (by repeat (first | (with_reducible first | exact HB.out | apply below_alloc | apply pw_below_drewN | apply below_drew1 | refine below_set ?_ GE138.out) | exact HB.out))) : w.heap.size ≤ gb139)); have n4_ := Aside0.mk ((by rw [hg]; exact (below_size (by repeat (first | (with_reducible first | exact HB.out | apply below_alloc | apply pw_below_drewN | apply below_drew1 | refine below_set ?_ GE138.out) | exact HB.out))) : w.heap.size ≤ gb139)); have n5_ := Aside0.mk ((by rw [hg]; exact Nat.ne_of_lt (blk_lt (g := gb138) (o := .cells #[.int .i64 t133, .int .i64 t134, .int .i64 t135, .int .i64 t136] 45 (0, 0)) (by (with_reducible repeat (first | refine blk_drewN ?_ _ | refine blk_drew ?_ | refine blk_alloc ?_ _)); exact BK138.out)) : gb138 ≠ gb139)); have n6_ := Aside0.mk ((by rw [hg]; exact Nat.ne_of_gt (blk_lt (g := gb138) (o := .cells #[.int .i64 t133, .int .i64 t134, .int .i64 t135, .int .i64 t136] 45 (0, 0)) (by (with_reducible repeat (first | refine blk_drewN ?_ _ | refine blk_drew ?_ | refine blk_alloc ?_ _)); exact BK138.out)) : gb139 ≠ gb138)); clear BK138; clear HB; have BK138 := n0_; have HB := n1_; have BK139 := n2_; have GW139 := n3_; have GE139 := n4_; have NB138_139 := n5_; have NB139_138 := n6_; clear n0_ n1_ n2_ n3_ n4_ n5_ n6_; clear hb hbox hg; have hnb11 := NB139_138.out; have hnc11 := NB138_139.out; have hcz12_0 : w10.cell? ⟨gb139, 0, none⟩ = some (.int .i64 0) := (blk_cell BK139.out 0).trans rfl; have hcz12_1 : w10.cell? ⟨gb139, 1, none⟩ = some (.int .i64 0) := (blk_cell BK139.out 1).trans rfl; have hcz12_2 : w10.cell? ⟨gb139, 2, none⟩ = some (.int .i64 0) := (blk_cell BK139.out 2).trans rfl; have hcz12_3 : w10.cell? ⟨gb139, 3, none⟩ = some (.int .i64 0) := (blk_cell BK139.out 3).trans rfl; have hfz12_0 := blk_frozen BK139.out 0; have hfz12_1 := blk_frozen BK139.out 1; have hfz12_2 := blk_frozen BK139.out 2; have hfz12_3 := blk_frozen BK139.out 3; have hcz13_0 : w10.cell? ⟨gb138, 0, none⟩ = some (.int .i64 t133) := (blk_cell BK138.out 0).trans rfl; have hcz13_1 : w10.cell? ⟨gb138, 1, none⟩ = some (.int .i64 t134) := (blk_cell BK138.out 1).trans rfl; have hcz13_2 : w10.cell? ⟨gb138, 2, none⟩ = some (.int .i64 t135) := (blk_cell BK138.out 2).trans rfl; have hcz13_3 : w10.cell? ⟨gb138, 3, none⟩ = some (.int .i64 t136) := (blk_cell BK138.out 3).trans rfl; have hfz13_0 := blk_frozen BK138.out 0; have hfz13_1 := blk_frozen BK138.out 1; have hfz13_2 := blk_frozen BK138.out 2; have hfz13_3 := blk_frozen BK138.out 3))
        go_loopg [24] kj2 (fun kq v24 w' => ∃ (x24_2 : Int) (x140000_2 : Int) (x140001_2 : Int) (x140002_2 : Int) (x140003_2 : Int), v24 = .int .i64 x24_2 ∧ Aside0 (impl_ColumnsOf.l0 kq x24_2 x140000_2 x140001_2 x140002_2 x140003_2 t133 t134 t135 t136 = some (r1, r2)) ∧ Aside0 (kq ≤ kj2) ∧ Aside0 (w'.heap[gb138]? = some (.cells #[.int .i64 t133, .int .i64 t134, .int .i64 t135, .int .i64 t136] 45 (0, 0))) ∧ Aside0 (w'.heap[gb139]? = some (.cells #[.int .i64 x140000_2, .int .i64 x140001_2, .int .i64 x140002_2, .int .i64 x140003_2] 45 (0, 0))) ∧ Aside0 (Below w.heap.size w w'))
        case atStart => exact ⟨(0), (0), (0), (0), (0), (by first | rfl | (simp; done) | (simp [*]; done)), H', ⟨Nat.le_refl _⟩, ⟨by (with_reducible repeat (first | refine blk_drewN ?_ _ | refine blk_drew ?_ | refine blk_alloc ?_ _)); refine blk_far ?_ NB138_139.out _; (with_reducible repeat (first | refine blk_drewN ?_ _ | refine blk_drew ?_ | refine blk_alloc ?_ _)); refine blk_far ?_ NB138_139.out _; (with_reducible repeat (first | refine blk_drewN ?_ _ | refine blk_drew ?_ | refine blk_alloc ?_ _)); refine blk_far ?_ NB138_139.out _; (with_reducible repeat (first | refine blk_drewN ?_ _ | refine blk_drew ?_ | refine blk_alloc ?_ _)); refine blk_far ?_ NB138_139.out _; (with_reducible repeat (first | refine blk_drewN ?_ _ | refine blk_drew ?_ | refine blk_alloc ?_ _)); exact BK138.out⟩, ⟨by (with_reducible repeat (first | refine blk_drewN ?_ _ | refine blk_drew ?_ | refine blk_alloc ?_ _)); refine blk_put (cs := #[.int .i64 0, .int .i64 0, .int .i64 0, .int .i64 0]) ?_ 3 _ rfl; (with_reducible repeat (first | refine blk_drewN ?_ _ | refine blk_drew ?_ | refine blk_alloc ?_ _)); refine blk_put (cs := #[.int .i64 0, .int .i64 0, .int .i64 0, .int .i64 0]) ?_ 2 _ rfl; (with_reducible repeat (first | refine blk_drewN ?_ _ | refine blk_drew ?_ | refine blk_alloc ?_ _)); refine blk_put (cs := #[.int .i64 0, .int .i64 0, .int .i64 0, .int .i64 0]) ?_ 1 _ rfl; (with_reducible repeat (first | refine blk_drewN ?_ _ | refine blk_drew ?_ | refine blk_alloc ?_ _)); refine blk_put (cs := #[.int .i64 0, .int .i64 0, .int .i64 0, .int .i64 0]) ?_ 0 _ rfl; (with_reducible repeat (first | refine blk_drewN ?_ _ | refine blk_drew ?_ | refine blk_alloc ?_ _)); exact BK139.out⟩, ⟨by repeat (first | (with_reducible first | exact HB.out | apply below_alloc | apply pw_below_drewN | apply below_drew1 | refine below_set ?_ GE138.out | refine below_set ?_ GE139.out) | exact HB.out)⟩⟩
        case round =>
          clear H'
          try clear c1
          try clear p2
          try clear c3
          try clear c7
          try clear c9
          try clear c11
          try clear hcz12_0
          try clear hcz12_1
          try clear hcz12_2
          try clear hcz12_3
          try clear hcz13_0
          try clear hcz13_1
          try clear hcz13_2
          try clear hcz13_3
          try clear hcz6_0
          try clear hcz6_1
          try clear hcz6_2
          try clear hcz6_3
          try clear hcz8_0
          try clear hcz8_1
          try clear hcz8_2
          try clear hcz8_3
          try clear hfz12_0
          try clear hfz12_1
          try clear hfz12_2
          try clear hfz12_3
          try clear hfz13_0
          try clear hfz13_1
          try clear hfz13_2
          try clear hfz13_3
          try clear hfz6_0
          try clear hfz6_1
          try clear hfz6_2
          try clear hfz6_3
          try clear hfz8_0
          try clear hfz8_1
          try clear hfz8_2
          try clear hfz8_3
          try clear p2
          obtain ⟨x24_2, x140000_2, x140001_2, x140002_2, x140003_2, rfl, HA, HK2, BK138, BK139, HB⟩ := hrel
          cases gk with
          | zero => exact absurd HA.out (by simp [impl_ColumnsOf.l0])
          | succ k2 =>
            have H := HA.out
            clear HA
            simp only [impl_ColumnsOf.l0] at H
            by_cases c14 : x24_2 < 4
            · rw [if_pos c14] at H
              have c14b0 : decide (x24_2 < 4) = true := decide_eq_true c14
              clear c14
              by_cases c15 : 0 ≤ x24_2
              · rw [if_pos c15] at H
                have c15b0 : decide (0 ≤ x24_2) = true := decide_eq_true c15
                clear c15
                by_cases c16 : x24_2 = 0
                · rw [if_pos c16] at H
                  have c16b0 : (x24_2 == 0) = true := beq_iff_eq.mpr c16
                  have c16b1 : (x24_2 != 0) = false := bne_eq_false_iff_eq.mpr c16
                  clear c16
                  have H' := Aside0.mk H
                  clear H
                  go_wp2_with (first | ((with_reducible refine gate_dst (N := 26) rfl ?_); refine zIndexVal (i := 0) (n := 4) (t := 45) (e := 3) rfl rfl Try.underlying45 (by kernel_rfl) (by first | rfl | (go_simp; done)) (by first | rfl | (go_simp; done)) (by first | exact of_decide_eq_true (by with_reducible assumption) | exact eq_of_beq (by with_reducible assumption) | exact of_decide_eq_true (by assumption) | exact eq_of_beq (by assumption)) (by decide) Try.underlying3 rfl ?_))
                  go_loopg [28] k2 (fun kq v28 w' => ∃ (x28_3 : Int) (x140000_3 : Int) (x140001_3 : Int) (x140002_3 : Int) (x140003_3 : Int), v28 = .int .i64 x28_3 ∧ Aside0 (impl_ColumnsOf.l1 kq x24_2 t133 x28_3 x140000_3 x140001_3 x140002_3 x140003_3 t133 t134 t135 t136 = some (r1, r2)) ∧ Aside0 (kq ≤ k2) ∧ Aside0 (w'.heap[gb138]? = some (.cells #[.int .i64 t133, .int .i64 t134, .int .i64 t135, .int .i64 t136] 45 (0, 0))) ∧ Aside0 (w'.heap[gb139]? = some (.cells #[.int .i64 x140000_3, .int .i64 x140001_3, .int .i64 x140002_3, .int .i64 x140003_3] 45 (0, 0))) ∧ Aside0 (Below w.heap.size w w'))
                  case atStart => exact ⟨(0), (x140000_2), (x140001_2), (x140002_2), (x140003_2), (by first | rfl | (simp; done) | (simp [*]; done)), H', ⟨Nat.le_refl _⟩, ⟨by (with_reducible repeat (first | refine blk_drewN ?_ _ | refine blk_drew ?_ | refine blk_alloc ?_ _)); exact BK138.out⟩, ⟨by (with_reducible repeat (first | refine blk_drewN ?_ _ | refine blk_drew ?_ | refine blk_alloc ?_ _)); exact BK139.out⟩, ⟨by repeat (first | (with_reducible first | exact HB.out | apply below_alloc | apply pw_below_drewN | apply below_drew1 | refine below_set ?_ GE138.out | refine below_set ?_ GE139.out) | exact HB.out)⟩⟩
                  case round =>
                    clear H'
                    try clear c1
                    try clear p2
                    try clear c3
                    try clear c7
                    try clear c9
                    try clear c11
                    try clear c14
                    try clear c14b0
                    try clear c15
                    try clear c15b0
                    try clear c16
                    try clear c16b0
                    try clear c16b1
                    try clear hcz12_0
                    try clear hcz12_1
                    try clear hcz12_2
                    try clear hcz12_3
                    try clear hcz13_0
                    try clear hcz13_1
                    try clear hcz13_2
                    try clear hcz13_3
                    try clear hcz6_0
                    try clear hcz6_1
                    try clear hcz6_2
                    try clear hcz6_3
                    try clear hcz8_0
                    try clear hcz8_1
                    try clear hcz8_2
                    try clear hcz8_3
                    try clear hfz12_0
                    try clear hfz12_1
                    try clear hfz12_2
                    try clear hfz12_3
                    try clear hfz13_0
                    try clear hfz13_1
                    try clear hfz13_2
                    try clear hfz13_3
                    try clear hfz6_0
                    try clear hfz6_1
                    try clear hfz6_2
                    try clear hfz6_3
                    try clear hfz8_0
                    try clear hfz8_1
                    try clear hfz8_2
                    try clear hfz8_3
                    try clear p2
                    obtain ⟨x28_3, x140000_3, x140001_3, x140002_3, x140003_3, rfl, HA, HK3, BK138, BK139, HB⟩ := hrel
                    cases gk with
                    | zero => exact absurd HA.out (by simp [impl_ColumnsOf.l1])
                    | succ k3 =>
                      have H := HA.out
                      clear HA
                      simp only [impl_ColumnsOf.l1] at H
                      by_cases c17 : x28_3 < t133
                      · rw [if_pos c17] at H
                        have c17b0 : decide (x28_3 < t133) = true := decide_eq_true c17
                        clear c17
                        by_cases c18 : 0 ≤ x28_3
                        · rw [if_pos c18] at H
                          have c18b0 : decide (0 ≤ x28_3) = true := decide_eq_true c18
                          clear c18
                          by_cases c19 : x28_3 < 4
                          · rw [if_pos c19] at H
                            have c19b0 : decide (x28_3 < 4) = true := decide_eq_true c19
                            clear c19
                            by_cases c20 : x28_3 = 0
                            · rw [if_pos c20] at H
                              have c20b0 : (x28_3 == 0) = true := beq_iff_eq.mpr c20
                              have c20b1 : (x28_3 != 0) = false := bne_eq_false_iff_eq.mpr c20
                              clear c20
                              have H' := Aside0.mk H
                              clear H
                              have hnb21 := NB139_138.out
                              have hnc21 := NB138_139.out
                              have hcz22_0 : wr.cell? ⟨gb139, 0, none⟩ = some (.int .i64 x140000_3) := (blk_cell BK139.out 0).trans rfl
                              have hcz22_1 : wr.cell? ⟨gb139, 1, none⟩ = some (.int .i64 x140001_3) := (blk_cell BK139.out 1).trans rfl
                              have hcz22_2 : wr.cell? ⟨gb139, 2, none⟩ = some (.int .i64 x140002_3) := (blk_cell BK139.out 2).trans rfl
                              have hcz22_3 : wr.cell? ⟨gb139, 3, none⟩ = some (.int .i64 x140003_3) := (blk_cell BK139.out 3).trans rfl
                              have hfz22_0 := blk_frozen BK139.out 0
                              have hfz22_1 := blk_frozen BK139.out 1
                              have hfz22_2 := blk_frozen BK139.out 2
                              have hfz22_3 := blk_frozen BK139.out 3
                              go_wp2_with (first | ((with_reducible refine gate_dst (N := 32) rfl ?_); refine zIndexAt (i := 0) (n := 4) (t := 45) (e := 3) rfl rfl Try.underlying45 (by kernel_rfl) (by first | rfl | (go_simp; done)) (by first | rfl | (go_simp; done)) (by first | exact of_decide_eq_true (by with_reducible assumption) | exact eq_of_beq (by with_reducible assumption) | exact of_decide_eq_true (by assumption) | exact eq_of_beq (by assumption)) (by decide) ?_) | ((with_reducible refine gate_dst (N := 35) rfl ?_); refine zIndexAt (i := 0) (n := 4) (t := 45) (e := 3) rfl rfl Try.underlying45 (by kernel_rfl) (by first | rfl | (go_simp; done)) (by first | rfl | (go_simp; done)) (by first | exact of_decide_eq_true (by with_reducible assumption) | exact eq_of_beq (by with_reducible assumption) | exact of_decide_eq_true (by assumption) | exact eq_of_beq (by assumption)) (by decide) ?_))
                              go_roundg k3
                              case measure => have := HJ2.out; have := HK2.out; have := HK3.out; omega
                              case rel => exact ⟨(wrap64 (x28_3 + 1)), (wrap64 (x140000_3 + 1)), (x140001_3), (x140002_3), (x140003_3), (by first | rfl | (simp; done) | (simp [*]; done)), H', ⟨by have := HJ2.out; have := HK2.out; have := HK3.out; omega⟩, ⟨by (with_reducible repeat (first | refine blk_drewN ?_ _ | refine blk_drew ?_ | refine blk_alloc ?_ _)); refine blk_far ?_ NB138_139.out _; (with_reducible repeat (first | refine blk_drewN ?_ _ | refine blk_drew ?_ | refine blk_alloc ?_ _)); exact BK138.out⟩, ⟨by (with_reducible repeat (first | refine blk_drewN ?_ _ | refine blk_drew ?_ | refine blk_alloc ?_ _)); refine blk_put (cs := #[.int .i64 x140000_3, .int .i64 x140001_3, .int .i64 x140002_3, .int .i64 x140003_3]) ?_ 0 _ rfl; (with_reducible repeat (first | refine blk_drewN ?_ _ | refine blk_drew ?_ | refine blk_alloc ?_ _)); exact BK139.out⟩, ⟨by repeat (first | (with_reducible first | exact HB.out | apply below_alloc | apply pw_below_drewN | apply below_drew1 | refine below_set ?_ GE138.out | refine below_set ?_ GE139.out) | exact HB.out)⟩⟩
                            · rw [if_neg c20] at H
                              have c20b0 : (x28_3 == 0) = false := beq_eq_false_iff_ne.mpr c20
                              have c20b1 : (x28_3 != 0) = true := bne_iff_ne.mpr c20
                              by_cases c23 : x28_3 = 1
                              · rw [if_pos c23] at H
                                have c23b0 : (x28_3 == 1) = true := beq_iff_eq.mpr c23
                                have c23b1 : (x28_3 != 1) = false := bne_eq_false_iff_eq.mpr c23
                                clear c23
                                have H' := Aside0.mk H
                                clear H
                                have hnb24 := NB139_138.out
                                have hnc24 := NB138_139.out
                                have hcz25_0 : wr.cell? ⟨gb139, 0, none⟩ = some (.int .i64 x140000_3) := (blk_cell BK139.out 0).trans rfl
                                have hcz25_1 : wr.cell? ⟨gb139, 1, none⟩ = some (.int .i64 x140001_3) := (blk_cell BK139.out 1).trans rfl
                                have hcz25_2 : wr.cell? ⟨gb139, 2, none⟩ = some (.int .i64 x140002_3) := (blk_cell BK139.out 2).trans rfl
                                have hcz25_3 : wr.cell? ⟨gb139, 3, none⟩ = some (.int .i64 x140003_3) := (blk_cell BK139.out 3).trans rfl
                                have hfz25_0 := blk_frozen BK139.out 0
                                have hfz25_1 := blk_frozen BK139.out 1
                                have hfz25_2 := blk_frozen BK139.out 2
                                have hfz25_3 := blk_frozen BK139.out 3
                                go_wp2_with (first | ((with_reducible refine gate_dst (N := 32) rfl ?_); refine zIndexAt (i := 1) (n := 4) (t := 45) (e := 3) rfl rfl Try.underlying45 (by kernel_rfl) (by first | rfl | (go_simp; done)) (by first | rfl | (go_simp; done)) (by first | exact of_decide_eq_true (by with_reducible assumption) | exact eq_of_beq (by with_reducible assumption) | exact of_decide_eq_true (by assumption) | exact eq_of_beq (by assumption)) (by decide) ?_) | ((with_reducible refine gate_dst (N := 35) rfl ?_); refine zIndexAt (i := 1) (n := 4) (t := 45) (e := 3) rfl rfl Try.underlying45 (by kernel_rfl) (by first | rfl | (go_simp; done)) (by first | rfl | (go_simp; done)) (by first | exact of_decide_eq_true (by with_reducible assumption) | exact eq_of_beq (by with_reducible assumption) | exact of_decide_eq_true (by assumption) | exact eq_of_beq (by assumption)) (by decide) ?_))
                                go_roundg k3
                                case measure => have := HJ2.out; have := HK2.out; have := HK3.out; omega
                                case rel => exact ⟨(wrap64 (x28_3 + 1)), (x140000_3), (wrap64 (x140001_3 + 1)), (x140002_3), (x140003_3), (by first | rfl | (simp; done) | (simp [*]; done)), H', ⟨by have := HJ2.out; have := HK2.out; have := HK3.out; omega⟩, ⟨by (with_reducible repeat (first | refine blk_drewN ?_ _ | refine blk_drew ?_ | refine blk_alloc ?_ _)); refine blk_far ?_ NB138_139.out _; (with_reducible repeat (first | refine blk_drewN ?_ _ | refine blk_drew ?_ | refine blk_alloc ?_ _)); exact BK138.out⟩, ⟨by (with_reducible repeat (first | refine blk_drewN ?_ _ | refine blk_drew ?_ | refine blk_alloc ?_ _)); refine blk_put (cs := #[.int .i64 x140000_3, .int .i64 x140001_3, .int .i64 x140002_3, .int .i64 x140003_3]) ?_ 1 _ rfl; (with_reducible repeat (first | refine blk_drewN ?_ _ | refine blk_drew ?_ | refine blk_alloc ?_ _)); exact BK139.out⟩, ⟨by repeat (first | (with_reducible first | exact HB.out | apply below_alloc | apply pw_below_drewN | apply below_drew1 | refine below_set ?_ GE138.out | refine below_set ?_ GE139.out) | exact HB.out)⟩⟩
                              · rw [if_neg c23] at H
                                have c23b0 : (x28_3 == 1) = false := beq_eq_false_iff_ne.mpr c23
                                have c23b1 : (x28_3 != 1) = true := bne_iff_ne.mpr c23
                                by_cases c26 : x28_3 = 2
                                · rw [if_pos c26] at H
                                  have c26b0 : (x28_3 == 2) = true := beq_iff_eq.mpr c26
                                  have c26b1 : (x28_3 != 2) = false := bne_eq_false_iff_eq.mpr c26
                                  clear c26
                                  have H' := Aside0.mk H
                                  clear H
                                  have hnb27 := NB139_138.out
                                  have hnc27 := NB138_139.out
                                  have hcz28_0 : wr.cell? ⟨gb139, 0, none⟩ = some (.int .i64 x140000_3) := (blk_cell BK139.out 0).trans rfl
                                  have hcz28_1 : wr.cell? ⟨gb139, 1, none⟩ = some (.int .i64 x140001_3) := (blk_cell BK139.out 1).trans rfl
                                  have hcz28_2 : wr.cell? ⟨gb139, 2, none⟩ = some (.int .i64 x140002_3) := (blk_cell BK139.out 2).trans rfl
                                  have hcz28_3 : wr.cell? ⟨gb139, 3, none⟩ = some (.int .i64 x140003_3) := (blk_cell BK139.out 3).trans rfl
                                  have hfz28_0 := blk_frozen BK139.out 0
                                  have hfz28_1 := blk_frozen BK139.out 1
                                  have hfz28_2 := blk_frozen BK139.out 2
                                  have hfz28_3 := blk_frozen BK139.out 3
                                  go_wp2_with (first | ((with_reducible refine gate_dst (N := 32) rfl ?_); refine zIndexAt (i := 2) (n := 4) (t := 45) (e := 3) rfl rfl Try.underlying45 (by kernel_rfl) (by first | rfl | (go_simp; done)) (by first | rfl | (go_simp; done)) (by first | exact of_decide_eq_true (by with_reducible assumption) | exact eq_of_beq (by with_reducible assumption) | exact of_decide_eq_true (by assumption) | exact eq_of_beq (by assumption)) (by decide) ?_) | ((with_reducible refine gate_dst (N := 35) rfl ?_); refine zIndexAt (i := 2) (n := 4) (t := 45) (e := 3) rfl rfl Try.underlying45 (by kernel_rfl) (by first | rfl | (go_simp; done)) (by first | rfl | (go_simp; done)) (by first | exact of_decide_eq_true (by with_reducible assumption) | exact eq_of_beq (by with_reducible assumption) | exact of_decide_eq_true (by assumption) | exact eq_of_beq (by assumption)) (by decide) ?_))
                                  go_roundg k3
                                  case measure => have := HJ2.out; have := HK2.out; have := HK3.out; omega
                                  case rel => exact ⟨(wrap64 (x28_3 + 1)), (x140000_3), (x140001_3), (wrap64 (x140002_3 + 1)), (x140003_3), (by first | rfl | (simp; done) | (simp [*]; done)), H', ⟨by have := HJ2.out; have := HK2.out; have := HK3.out; omega⟩, ⟨by (with_reducible repeat (first | refine blk_drewN ?_ _ | refine blk_drew ?_ | refine blk_alloc ?_ _)); refine blk_far ?_ NB138_139.out _; (with_reducible repeat (first | refine blk_drewN ?_ _ | refine blk_drew ?_ | refine blk_alloc ?_ _)); exact BK138.out⟩, ⟨by (with_reducible repeat (first | refine blk_drewN ?_ _ | refine blk_drew ?_ | refine blk_alloc ?_ _)); refine blk_put (cs := #[.int .i64 x140000_3, .int .i64 x140001_3, .int .i64 x140002_3, .int .i64 x140003_3]) ?_ 2 _ rfl; (with_reducible repeat (first | refine blk_drewN ?_ _ | refine blk_drew ?_ | refine blk_alloc ?_ _)); exact BK139.out⟩, ⟨by repeat (first | (with_reducible first | exact HB.out | apply below_alloc | apply pw_below_drewN | apply below_drew1 | refine below_set ?_ GE138.out | refine below_set ?_ GE139.out) | exact HB.out)⟩⟩
                                · rw [if_neg c26] at H
                                  have c26b0 : (x28_3 == 2) = false := beq_eq_false_iff_ne.mpr c26
                                  have c26b1 : (x28_3 != 2) = true := bne_iff_ne.mpr c26
                                  by_cases c29 : x28_3 = 3
                                  · rw [if_pos c29] at H
                                    have c29b0 : (x28_3 == 3) = true := beq_iff_eq.mpr c29
                                    have c29b1 : (x28_3 != 3) = false := bne_eq_false_iff_eq.mpr c29
                                    clear c29
                                    have H' := Aside0.mk H
                                    clear H
                                    have hnb30 := NB139_138.out
                                    have hnc30 := NB138_139.out
                                    have hcz31_0 : wr.cell? ⟨gb139, 0, none⟩ = some (.int .i64 x140000_3) := (blk_cell BK139.out 0).trans rfl
                                    have hcz31_1 : wr.cell? ⟨gb139, 1, none⟩ = some (.int .i64 x140001_3) := (blk_cell BK139.out 1).trans rfl
                                    have hcz31_2 : wr.cell? ⟨gb139, 2, none⟩ = some (.int .i64 x140002_3) := (blk_cell BK139.out 2).trans rfl
                                    have hcz31_3 : wr.cell? ⟨gb139, 3, none⟩ = some (.int .i64 x140003_3) := (blk_cell BK139.out 3).trans rfl
                                    have hfz31_0 := blk_frozen BK139.out 0
                                    have hfz31_1 := blk_frozen BK139.out 1
                                    have hfz31_2 := blk_frozen BK139.out 2
                                    have hfz31_3 := blk_frozen BK139.out 3
                                    go_wp2_with (first | ((with_reducible refine gate_dst (N := 32) rfl ?_); refine zIndexAt (i := 3) (n := 4) (t := 45) (e := 3) rfl rfl Try.underlying45 (by kernel_rfl) (by first | rfl | (go_simp; done)) (by first | rfl | (go_simp; done)) (by first | exact of_decide_eq_true (by with_reducible assumption) | exact eq_of_beq (by with_reducible assumption) | exact of_decide_eq_true (by assumption) | exact eq_of_beq (by assumption)) (by decide) ?_) | ((with_reducible refine gate_dst (N := 35) rfl ?_); refine zIndexAt (i := 3) (n := 4) (t := 45) (e := 3) rfl rfl Try.underlying45 (by kernel_rfl) (by first | rfl | (go_simp; done)) (by first | rfl | (go_simp; done)) (by first | exact of_decide_eq_true (by with_reducible assumption) | exact eq_of_beq (by with_reducible assumption) | exact of_decide_eq_true (by assumption) | exact eq_of_beq (by assumption)) (by decide) ?_))
                                    go_roundg k3
                                    case measure => have := HJ2.out; have := HK2.out; have := HK3.out; omega
                                    case rel => exact ⟨(wrap64 (x28_3 + 1)), (x140000_3), (x140001_3), (x140002_3), (wrap64 (x140003_3 + 1)), (by first | rfl | (simp; done) | (simp [*]; done)), H', ⟨by have := HJ2.out; have := HK2.out; have := HK3.out; omega⟩, ⟨by (with_reducible repeat (first | refine blk_drewN ?_ _ | refine blk_drew ?_ | refine blk_alloc ?_ _)); refine blk_far ?_ NB138_139.out _; (with_reducible repeat (first | refine blk_drewN ?_ _ | refine blk_drew ?_ | refine blk_alloc ?_ _)); exact BK138.out⟩, ⟨by (with_reducible repeat (first | refine blk_drewN ?_ _ | refine blk_drew ?_ | refine blk_alloc ?_ _)); refine blk_put (cs := #[.int .i64 x140000_3, .int .i64 x140001_3, .int .i64 x140002_3, .int .i64 x140003_3]) ?_ 3 _ rfl; (with_reducible repeat (first | refine blk_drewN ?_ _ | refine blk_drew ?_ | refine blk_alloc ?_ _)); exact BK139.out⟩, ⟨by repeat (first | (with_reducible first | exact HB.out | apply below_alloc | apply pw_below_drewN | apply below_drew1 | refine below_set ?_ GE138.out | refine below_set ?_ GE139.out) | exact HB.out)⟩⟩
                                  · rw [if_neg c29] at H
                                    exact absurd H (by simp)
                          · rw [if_neg c19] at H
                            exact absurd H (by simp)
                        · rw [if_neg c18] at H
                          exact absurd H (by simp)
                      · rw [if_neg c17] at H
                        have c17b0 : decide (x28_3 < t133) = false := decide_eq_false c17
                        clear c17
                        have H' := Aside0.mk H
                        clear H
                        go_wp2
                        go_roundg k3
                        case measure => have := HJ2.out; have := HK2.out; have := HK3.out; omega
                        case rel => exact ⟨(wrap64 (x24_2 + 1)), (x140000_3), (x140001_3), (x140002_3), (x140003_3), (by first | rfl | (simp; done) | (simp [*]; done)), H', ⟨by have := HJ2.out; have := HK2.out; have := HK3.out; omega⟩, ⟨by (with_reducible repeat (first | refine blk_drewN ?_ _ | refine blk_drew ?_ | refine blk_alloc ?_ _)); exact BK138.out⟩, ⟨by (with_reducible repeat (first | refine blk_drewN ?_ _ | refine blk_drew ?_ | refine blk_alloc ?_ _)); exact BK139.out⟩, ⟨by repeat (first | (with_reducible first | exact HB.out | apply below_alloc | apply pw_below_drewN | apply below_drew1 | refine below_set ?_ GE138.out | refine below_set ?_ GE139.out) | exact HB.out)⟩⟩
                · rw [if_neg c16] at H
                  have c16b0 : (x24_2 == 0) = false := beq_eq_false_iff_ne.mpr c16
                  have c16b1 : (x24_2 != 0) = true := bne_iff_ne.mpr c16
                  by_cases c32 : x24_2 = 1
                  · rw [if_pos c32] at H
                    have c32b0 : (x24_2 == 1) = true := beq_iff_eq.mpr c32
                    have c32b1 : (x24_2 != 1) = false := bne_eq_false_iff_eq.mpr c32
                    clear c32
                    have H' := Aside0.mk H
                    clear H
                    go_wp2_with (first | ((with_reducible refine gate_dst (N := 26) rfl ?_); refine zIndexVal (i := 1) (n := 4) (t := 45) (e := 3) rfl rfl Try.underlying45 (by kernel_rfl) (by first | rfl | (go_simp; done)) (by first | rfl | (go_simp; done)) (by first | exact of_decide_eq_true (by with_reducible assumption) | exact eq_of_beq (by with_reducible assumption) | exact of_decide_eq_true (by assumption) | exact eq_of_beq (by assumption)) (by decide) Try.underlying3 rfl ?_))
                    go_loopg [28] k2 (fun kq v28 w' => ∃ (x28_3 : Int) (x140000_3 : Int) (x140001_3 : Int) (x140002_3 : Int) (x140003_3 : Int), v28 = .int .i64 x28_3 ∧ Aside0 (impl_ColumnsOf.l1 kq x24_2 t134 x28_3 x140000_3 x140001_3 x140002_3 x140003_3 t133 t134 t135 t136 = some (r1, r2)) ∧ Aside0 (kq ≤ k2) ∧ Aside0 (w'.heap[gb138]? = some (.cells #[.int .i64 t133, .int .i64 t134, .int .i64 t135, .int .i64 t136] 45 (0, 0))) ∧ Aside0 (w'.heap[gb139]? = some (.cells #[.int .i64 x140000_3, .int .i64 x140001_3, .int .i64 x140002_3, .int .i64 x140003_3] 45 (0, 0))) ∧ Aside0 (Below w.heap.size w w'))
                    case atStart => exact ⟨(0), (x140000_2), (x140001_2), (x140002_2), (x140003_2), (by first | rfl | (simp; done) | (simp [*]; done)), H', ⟨Nat.le_refl _⟩, ⟨by (with_reducible repeat (first | refine blk_drewN ?_ _ | refine blk_drew ?_ | refine blk_alloc ?_ _)); exact BK138.out⟩, ⟨by (with_reducible repeat (first | refine blk_drewN ?_ _ | refine blk_drew ?_ | refine blk_alloc ?_ _)); exact BK139.out⟩, ⟨by repeat (first | (with_reducible first | exact HB.out | apply below_alloc | apply pw_below_drewN | apply below_drew1 | refine below_set ?_ GE138.out | refine below_set ?_ GE139.out) | exact HB.out)⟩⟩
                    case round =>
                      clear H'
                      try clear c1
                      try clear c2
                      try clear p2
                      try clear c3
                      try clear p6
                      try clear c7
                      try clear c9
                      try clear c11
                      try clear c14
                      try clear c14b0
                      try clear c15
                      try clear c15b0
                      try clear c16
                      try clear c16b0
                      try clear c16b1
                      try clear c17
                      try clear c17b0
                      try clear c18
                      try clear c18b0
                      try clear c19
                      try clear c19b0
                      try clear c20
                      try clear c20b0
                      try clear c20b1
                      try clear c21
                      try clear c23
                      try clear c23b0
                      try clear c23b1
                      try clear c24
                      try clear c26
                      try clear c26b0
                      try clear c26b1
                      try clear c27
                      try clear c29
                      try clear c29b0
                      try clear c29b1
                      try clear c30
                      try clear c32
                      try clear c32b0
                      try clear c32b1
                      try clear hcz12_0
                      try clear hcz12_1
                      try clear hcz12_2
                      try clear hcz12_3
                      try clear hcz13_0
                      try clear hcz13_1
                      try clear hcz13_2
                      try clear hcz13_3
                      try clear hcz22_0
                      try clear hcz22_1
                      try clear hcz22_2
                      try clear hcz22_3
                      try clear hcz25_0
                      try clear hcz25_1
                      try clear hcz25_2
                      try clear hcz25_3
                      try clear hcz28_0
                      try clear hcz28_1
                      try clear hcz28_2
                      try clear hcz28_3
                      try clear hcz31_0
                      try clear hcz31_1
                      try clear hcz31_2
                      try clear hcz31_3
                      try clear hcz6_0
                      try clear hcz6_1
                      try clear hcz6_2
                      try clear hcz6_3
                      try clear hcz8_0
                      try clear hcz8_1
                      try clear hcz8_2
                      try clear hcz8_3
                      try clear hfz12_0
                      try clear hfz12_1
                      try clear hfz12_2
                      try clear hfz12_3
                      try clear hfz13_0
                      try clear hfz13_1
                      try clear hfz13_2
                      try clear hfz13_3
                      try clear hfz22_0
                      try clear hfz22_1
                      try clear hfz22_2
                      try clear hfz22_3
                      try clear hfz25_0
                      try clear hfz25_1
                      try clear hfz25_2
                      try clear hfz25_3
                      try clear hfz28_0
                      try clear hfz28_1
                      try clear hfz28_2
                      try clear hfz28_3
                      try clear hfz31_0
                      try clear hfz31_1
                      try clear hfz31_2
                      try clear hfz31_3
                      try clear hfz6_0
                      try clear hfz6_1
                      try clear hfz6_2
                      try clear hfz6_3
                      try clear hfz8_0
                      try clear hfz8_1
                      try clear hfz8_2
                      try clear hfz8_3
                      try clear p2
                      obtain ⟨x28_3, x140000_3, x140001_3, x140002_3, x140003_3, rfl, HA, HK3, BK138, BK139, HB⟩ := hrel
                      cases gk with
                      | zero => exact absurd HA.out (by simp [impl_ColumnsOf.l1])
                      | succ k3 =>
                        have H := HA.out
                        clear HA
                        simp only [impl_ColumnsOf.l1] at H
                        by_cases c33 : x28_3 < t134
                        · rw [if_pos c33] at H
                          have c33b0 : decide (x28_3 < t134) = true := decide_eq_true c33
                          clear c33
                          by_cases c34 : 0 ≤ x28_3
                          · rw [if_pos c34] at H
                            have c34b0 : decide (0 ≤ x28_3) = true := decide_eq_true c34
                            clear c34
                            by_cases c35 : x28_3 < 4
                            · rw [if_pos c35] at H
                              have c35b0 : decide (x28_3 < 4) = true := decide_eq_true c35
                              clear c35
                              by_cases c36 : x28_3 = 0
                              · rw [if_pos c36] at H
                                have c36b0 : (x28_3 == 0) = true := beq_iff_eq.mpr c36
                                have c36b1 : (x28_3 != 0) = false := bne_eq_false_iff_eq.mpr c36
                                clear c36
                                have H' := Aside0.mk H
                                clear H
                                have hnb37 := NB139_138.out
                                have hnc37 := NB138_139.out
                                have hcz38_0 : wr.cell? ⟨gb139, 0, none⟩ = some (.int .i64 x140000_3) := (blk_cell BK139.out 0).trans rfl
                                have hcz38_1 : wr.cell? ⟨gb139, 1, none⟩ = some (.int .i64 x140001_3) := (blk_cell BK139.out 1).trans rfl
                                have hcz38_2 : wr.cell? ⟨gb139, 2, none⟩ = some (.int .i64 x140002_3) := (blk_cell BK139.out 2).trans rfl
                                have hcz38_3 : wr.cell? ⟨gb139, 3, none⟩ = some (.int .i64 x140003_3) := (blk_cell BK139.out 3).trans rfl
                                have hfz38_0 := blk_frozen BK139.out 0
                                have hfz38_1 := blk_frozen BK139.out 1
                                have hfz38_2 := blk_frozen BK139.out 2
                                have hfz38_3 := blk_frozen BK139.out 3
                                go_wp2_with (first | ((with_reducible refine gate_dst (N := 32) rfl ?_); refine zIndexAt (i := 0) (n := 4) (t := 45) (e := 3) rfl rfl Try.underlying45 (by kernel_rfl) (by first | rfl | (go_simp; done)) (by first | rfl | (go_simp; done)) (by first | exact of_decide_eq_true (by with_reducible assumption) | exact eq_of_beq (by with_reducible assumption) | exact of_decide_eq_true (by assumption) | exact eq_of_beq (by assumption)) (by decide) ?_) | ((with_reducible refine gate_dst (N := 35) rfl ?_); refine zIndexAt (i := 0) (n := 4) (t := 45) (e := 3) rfl rfl Try.underlying45 (by kernel_rfl) (by first | rfl | (go_simp; done)) (by first | rfl | (go_simp; done)) (by first | exact of_decide_eq_true (by with_reducible assumption) | exact eq_of_beq (by with_reducible assumption) | exact of_decide_eq_true (by assumption) | exact eq_of_beq (by assumption)) (by decide) ?_))
                                go_roundg k3
                                case measure => have := HJ2.out; have := HK2.out; have := HK3.out; omega
                                case rel => exact ⟨(wrap64 (x28_3 + 1)), (wrap64 (x140000_3 + 1)), (x140001_3), (x140002_3), (x140003_3), (by first | rfl | (simp; done) | (simp [*]; done)), H', ⟨by have := HJ2.out; have := HK2.out; have := HK3.out; omega⟩, ⟨by (with_reducible repeat (first | refine blk_drewN ?_ _ | refine blk_drew ?_ | refine blk_alloc ?_ _)); refine blk_far ?_ NB138_139.out _; (with_reducible repeat (first | refine blk_drewN ?_ _ | refine blk_drew ?_ | refine blk_alloc ?_ _)); exact BK138.out⟩, ⟨by (with_reducible repeat (first | refine blk_drewN ?_ _ | refine blk_drew ?_ | refine blk_alloc ?_ _)); refine blk_put (cs := #[.int .i64 x140000_3, .int .i64 x140001_3, .int .i64 x140002_3, .int .i64 x140003_3]) ?_ 0 _ rfl; (with_reducible repeat (first | refine blk_drewN ?_ _ | refine blk_drew ?_ | refine blk_alloc ?_ _)); exact BK139.out⟩, ⟨by repeat (first | (with_reducible first | exact HB.out | apply below_alloc | apply pw_below_drewN | apply below_drew1 | refine below_set ?_ GE138.out | refine below_set ?_ GE139.out) | exact HB.out)⟩⟩
                              · rw [if_neg c36] at H
                                have c36b0 : (x28_3 == 0) = false := beq_eq_false_iff_ne.mpr c36
                                have c36b1 : (x28_3 != 0) = true := bne_iff_ne.mpr c36
                                by_cases c39 : x28_3 = 1
                                · rw [if_pos c39] at H
                                  have c39b0 : (x28_3 == 1) = true := beq_iff_eq.mpr c39
                                  have c39b1 : (x28_3 != 1) = false := bne_eq_false_iff_eq.mpr c39
                                  clear c39
                                  have H' := Aside0.mk H
                                  clear H
                                  have hnb40 := NB139_138.out
                                  have hnc40 := NB138_139.out
                                  have hcz41_0 : wr.cell? ⟨gb139, 0, none⟩ = some (.int .i64 x140000_3) := (blk_cell BK139.out 0).trans rfl
                                  have hcz41_1 : wr.cell? ⟨gb139, 1, none⟩ = some (.int .i64 x140001_3) := (blk_cell BK139.out 1).trans rfl
                                  have hcz41_2 : wr.cell? ⟨gb139, 2, none⟩ = some (.int .i64 x140002_3) := (blk_cell BK139.out 2).trans rfl
                                  have hcz41_3 : wr.cell? ⟨gb139, 3, none⟩ = some (.int .i64 x140003_3) := (blk_cell BK139.out 3).trans rfl
                                  have hfz41_0 := blk_frozen BK139.out 0
                                  have hfz41_1 := blk_frozen BK139.out 1
                                  have hfz41_2 := blk_frozen BK139.out 2
                                  have hfz41_3 := blk_frozen BK139.out 3
                                  go_wp2_with (first | ((with_reducible refine gate_dst (N := 32) rfl ?_); refine zIndexAt (i := 1) (n := 4) (t := 45) (e := 3) rfl rfl Try.underlying45 (by kernel_rfl) (by first | rfl | (go_simp; done)) (by first | rfl | (go_simp; done)) (by first | exact of_decide_eq_true (by with_reducible assumption) | exact eq_of_beq (by with_reducible assumption) | exact of_decide_eq_true (by assumption) | exact eq_of_beq (by assumption)) (by decide) ?_) | ((with_reducible refine gate_dst (N := 35) rfl ?_); refine zIndexAt (i := 1) (n := 4) (t := 45) (e := 3) rfl rfl Try.underlying45 (by kernel_rfl) (by first | rfl | (go_simp; done)) (by first | rfl | (go_simp; done)) (by first | exact of_decide_eq_true (by with_reducible assumption) | exact eq_of_beq (by with_reducible assumption) | exact of_decide_eq_true (by assumption) | exact eq_of_beq (by assumption)) (by decide) ?_))
                                  go_roundg k3
                                  case measure => have := HJ2.out; have := HK2.out; have := HK3.out; omega
                                  case rel => exact ⟨(wrap64 (x28_3 + 1)), (x140000_3), (wrap64 (x140001_3 + 1)), (x140002_3), (x140003_3), (by first | rfl | (simp; done) | (simp [*]; done)), H', ⟨by have := HJ2.out; have := HK2.out; have := HK3.out; omega⟩, ⟨by (with_reducible repeat (first | refine blk_drewN ?_ _ | refine blk_drew ?_ | refine blk_alloc ?_ _)); refine blk_far ?_ NB138_139.out _; (with_reducible repeat (first | refine blk_drewN ?_ _ | refine blk_drew ?_ | refine blk_alloc ?_ _)); exact BK138.out⟩, ⟨by (with_reducible repeat (first | refine blk_drewN ?_ _ | refine blk_drew ?_ | refine blk_alloc ?_ _)); refine blk_put (cs := #[.int .i64 x140000_3, .int .i64 x140001_3, .int .i64 x140002_3, .int .i64 x140003_3]) ?_ 1 _ rfl; (with_reducible repeat (first | refine blk_drewN ?_ _ | refine blk_drew ?_ | refine blk_alloc ?_ _)); exact BK139.out⟩, ⟨by repeat (first | (with_reducible first | exact HB.out | apply below_alloc | apply pw_below_drewN | apply below_drew1 | refine below_set ?_ GE138.out | refine below_set ?_ GE139.out) | exact HB.out)⟩⟩
                                · rw [if_neg c39] at H
                                  have c39b0 : (x28_3 == 1) = false := beq_eq_false_iff_ne.mpr c39
                                  have c39b1 : (x28_3 != 1) = true := bne_iff_ne.mpr c39
                                  by_cases c42 : x28_3 = 2
                                  · rw [if_pos c42] at H
                                    have c42b0 : (x28_3 == 2) = true := beq_iff_eq.mpr c42
                                    have c42b1 : (x28_3 != 2) = false := bne_eq_false_iff_eq.mpr c42
                                    clear c42
                                    have H' := Aside0.mk H
                                    clear H
                                    have hnb43 := NB139_138.out
                                    have hnc43 := NB138_139.out
                                    have hcz44_0 : wr.cell? ⟨gb139, 0, none⟩ = some (.int .i64 x140000_3) := (blk_cell BK139.out 0).trans rfl
                                    have hcz44_1 : wr.cell? ⟨gb139, 1, none⟩ = some (.int .i64 x140001_3) := (blk_cell BK139.out 1).trans rfl
                                    have hcz44_2 : wr.cell? ⟨gb139, 2, none⟩ = some (.int .i64 x140002_3) := (blk_cell BK139.out 2).trans rfl
                                    have hcz44_3 : wr.cell? ⟨gb139, 3, none⟩ = some (.int .i64 x140003_3) := (blk_cell BK139.out 3).trans rfl
                                    have hfz44_0 := blk_frozen BK139.out 0
                                    have hfz44_1 := blk_frozen BK139.out 1
                                    have hfz44_2 := blk_frozen BK139.out 2
                                    have hfz44_3 := blk_frozen BK139.out 3
                                    go_wp2_with (first | ((with_reducible refine gate_dst (N := 32) rfl ?_); refine zIndexAt (i := 2) (n := 4) (t := 45) (e := 3) rfl rfl Try.underlying45 (by kernel_rfl) (by first | rfl | (go_simp; done)) (by first | rfl | (go_simp; done)) (by first | exact of_decide_eq_true (by with_reducible assumption) | exact eq_of_beq (by with_reducible assumption) | exact of_decide_eq_true (by assumption) | exact eq_of_beq (by assumption)) (by decide) ?_) | ((with_reducible refine gate_dst (N := 35) rfl ?_); refine zIndexAt (i := 2) (n := 4) (t := 45) (e := 3) rfl rfl Try.underlying45 (by kernel_rfl) (by first | rfl | (go_simp; done)) (by first | rfl | (go_simp; done)) (by first | exact of_decide_eq_true (by with_reducible assumption) | exact eq_of_beq (by with_reducible assumption) | exact of_decide_eq_true (by assumption) | exact eq_of_beq (by assumption)) (by decide) ?_))
                                    go_roundg k3
                                    case measure => have := HJ2.out; have := HK2.out; have := HK3.out; omega
                                    case rel => exact ⟨(wrap64 (x28_3 + 1)), (x140000_3), (x140001_3), (wrap64 (x140002_3 + 1)), (x140003_3), (by first | rfl | (simp; done) | (simp [*]; done)), H', ⟨by have := HJ2.out; have := HK2.out; have := HK3.out; omega⟩, ⟨by (with_reducible repeat (first | refine blk_drewN ?_ _ | refine blk_drew ?_ | refine blk_alloc ?_ _)); refine blk_far ?_ NB138_139.out _; (with_reducible repeat (first | refine blk_drewN ?_ _ | refine blk_drew ?_ | refine blk_alloc ?_ _)); exact BK138.out⟩, ⟨by (with_reducible repeat (first | refine blk_drewN ?_ _ | refine blk_drew ?_ | refine blk_alloc ?_ _)); refine blk_put (cs := #[.int .i64 x140000_3, .int .i64 x140001_3, .int .i64 x140002_3, .int .i64 x140003_3]) ?_ 2 _ rfl; (with_reducible repeat (first | refine blk_drewN ?_ _ | refine blk_drew ?_ | refine blk_alloc ?_ _)); exact BK139.out⟩, ⟨by repeat (first | (with_reducible first | exact HB.out | apply below_alloc | apply pw_below_drewN | apply below_drew1 | refine below_set ?_ GE138.out | refine below_set ?_ GE139.out) | exact HB.out)⟩⟩
                                  · rw [if_neg c42] at H
                                    have c42b0 : (x28_3 == 2) = false := beq_eq_false_iff_ne.mpr c42
                                    have c42b1 : (x28_3 != 2) = true := bne_iff_ne.mpr c42
                                    by_cases c45 : x28_3 = 3
                                    · rw [if_pos c45] at H
                                      have c45b0 : (x28_3 == 3) = true := beq_iff_eq.mpr c45
                                      have c45b1 : (x28_3 != 3) = false := bne_eq_false_iff_eq.mpr c45
                                      clear c45
                                      have H' := Aside0.mk H
                                      clear H
                                      have hnb46 := NB139_138.out
                                      have hnc46 := NB138_139.out
                                      have hcz47_0 : wr.cell? ⟨gb139, 0, none⟩ = some (.int .i64 x140000_3) := (blk_cell BK139.out 0).trans rfl
                                      have hcz47_1 : wr.cell? ⟨gb139, 1, none⟩ = some (.int .i64 x140001_3) := (blk_cell BK139.out 1).trans rfl
                                      have hcz47_2 : wr.cell? ⟨gb139, 2, none⟩ = some (.int .i64 x140002_3) := (blk_cell BK139.out 2).trans rfl
                                      have hcz47_3 : wr.cell? ⟨gb139, 3, none⟩ = some (.int .i64 x140003_3) := (blk_cell BK139.out 3).trans rfl
                                      have hfz47_0 := blk_frozen BK139.out 0
                                      have hfz47_1 := blk_frozen BK139.out 1
                                      have hfz47_2 := blk_frozen BK139.out 2
                                      have hfz47_3 := blk_frozen BK139.out 3
                                      go_wp2_with (first | ((with_reducible refine gate_dst (N := 32) rfl ?_); refine zIndexAt (i := 3) (n := 4) (t := 45) (e := 3) rfl rfl Try.underlying45 (by kernel_rfl) (by first | rfl | (go_simp; done)) (by first | rfl | (go_simp; done)) (by first | exact of_decide_eq_true (by with_reducible assumption) | exact eq_of_beq (by with_reducible assumption) | exact of_decide_eq_true (by assumption) | exact eq_of_beq (by assumption)) (by decide) ?_) | ((with_reducible refine gate_dst (N := 35) rfl ?_); refine zIndexAt (i := 3) (n := 4) (t := 45) (e := 3) rfl rfl Try.underlying45 (by kernel_rfl) (by first | rfl | (go_simp; done)) (by first | rfl | (go_simp; done)) (by first | exact of_decide_eq_true (by with_reducible assumption) | exact eq_of_beq (by with_reducible assumption) | exact of_decide_eq_true (by assumption) | exact eq_of_beq (by assumption)) (by decide) ?_))
                                      go_roundg k3
                                      case measure => have := HJ2.out; have := HK2.out; have := HK3.out; omega
                                      case rel => exact ⟨(wrap64 (x28_3 + 1)), (x140000_3), (x140001_3), (x140002_3), (wrap64 (x140003_3 + 1)), (by first | rfl | (simp; done) | (simp [*]; done)), H', ⟨by have := HJ2.out; have := HK2.out; have := HK3.out; omega⟩, ⟨by (with_reducible repeat (first | refine blk_drewN ?_ _ | refine blk_drew ?_ | refine blk_alloc ?_ _)); refine blk_far ?_ NB138_139.out _; (with_reducible repeat (first | refine blk_drewN ?_ _ | refine blk_drew ?_ | refine blk_alloc ?_ _)); exact BK138.out⟩, ⟨by (with_reducible repeat (first | refine blk_drewN ?_ _ | refine blk_drew ?_ | refine blk_alloc ?_ _)); refine blk_put (cs := #[.int .i64 x140000_3, .int .i64 x140001_3, .int .i64 x140002_3, .int .i64 x140003_3]) ?_ 3 _ rfl; (with_reducible repeat (first | refine blk_drewN ?_ _ | refine blk_drew ?_ | refine blk_alloc ?_ _)); exact BK139.out⟩, ⟨by repeat (first | (with_reducible first | exact HB.out | apply below_alloc | apply pw_below_drewN | apply below_drew1 | refine below_set ?_ GE138.out | refine below_set ?_ GE139.out) | exact HB.out)⟩⟩
                                    · rw [if_neg c45] at H
                                      exact absurd H (by simp)
                            · rw [if_neg c35] at H
                              exact absurd H (by simp)
                          · rw [if_neg c34] at H
                            exact absurd H (by simp)
                        · rw [if_neg c33] at H
                          have c33b0 : decide (x28_3 < t134) = false := decide_eq_false c33
                          clear c33
                          have H' := Aside0.mk H
                          clear H
                          go_wp2
                          go_roundg k3
                          case measure => have := HJ2.out; have := HK2.out; have := HK3.out; omega
                          case rel => exact ⟨(wrap64 (x24_2 + 1)), (x140000_3), (x140001_3), (x140002_3), (x140003_3), (by first | rfl | (simp; done) | (simp [*]; done)), H', ⟨by have := HJ2.out; have := HK2.out; have := HK3.out; omega⟩, ⟨by (with_reducible repeat (first | refine blk_drewN ?_ _ | refine blk_drew ?_ | refine blk_alloc ?_ _)); exact BK138.out⟩, ⟨by (with_reducible repeat (first | refine blk_drewN ?_ _ | refine blk_drew ?_ | refine blk_alloc ?_ _)); exact BK139.out⟩, ⟨by repeat (first | (with_reducible first | exact HB.out | apply below_alloc | apply pw_below_drewN | apply below_drew1 | refine below_set ?_ GE138.out | refine below_set ?_ GE139.out) | exact HB.out)⟩⟩
                  · rw [if_neg c32] at H
                    have c32b0 : (x24_2 == 1) = false := beq_eq_false_iff_ne.mpr c32
                    have c32b1 : (x24_2 != 1) = true := bne_iff_ne.mpr c32
                    by_cases c48 : x24_2 = 2
                    · rw [if_pos c48] at H
                      have c48b0 : (x24_2 == 2) = true := beq_iff_eq.mpr c48
                      have c48b1 : (x24_2 != 2) = false := bne_eq_false_iff_eq.mpr c48
                      clear c48
                      have H' := Aside0.mk H
                      clear H
                      go_wp2_with (first | ((with_reducible refine gate_dst (N := 26) rfl ?_); refine zIndexVal (i := 2) (n := 4) (t := 45) (e := 3) rfl rfl Try.underlying45 (by kernel_rfl) (by first | rfl | (go_simp; done)) (by first | rfl | (go_simp; done)) (by first | exact of_decide_eq_true (by with_reducible assumption) | exact eq_of_beq (by with_reducible assumption) | exact of_decide_eq_true (by assumption) | exact eq_of_beq (by assumption)) (by decide) Try.underlying3 rfl ?_))
                      go_loopg [28] k2 (fun kq v28 w' => ∃ (x28_3 : Int) (x140000_3 : Int) (x140001_3 : Int) (x140002_3 : Int) (x140003_3 : Int), v28 = .int .i64 x28_3 ∧ Aside0 (impl_ColumnsOf.l1 kq x24_2 t135 x28_3 x140000_3 x140001_3 x140002_3 x140003_3 t133 t134 t135 t136 = some (r1, r2)) ∧ Aside0 (kq ≤ k2) ∧ Aside0 (w'.heap[gb138]? = some (.cells #[.int .i64 t133, .int .i64 t134, .int .i64 t135, .int .i64 t136] 45 (0, 0))) ∧ Aside0 (w'.heap[gb139]? = some (.cells #[.int .i64 x140000_3, .int .i64 x140001_3, .int .i64 x140002_3, .int .i64 x140003_3] 45 (0, 0))) ∧ Aside0 (Below w.heap.size w w'))
                      case atStart => exact ⟨(0), (x140000_2), (x140001_2), (x140002_2), (x140003_2), (by first | rfl | (simp; done) | (simp [*]; done)), H', ⟨Nat.le_refl _⟩, ⟨by (with_reducible repeat (first | refine blk_drewN ?_ _ | refine blk_drew ?_ | refine blk_alloc ?_ _)); exact BK138.out⟩, ⟨by (with_reducible repeat (first | refine blk_drewN ?_ _ | refine blk_drew ?_ | refine blk_alloc ?_ _)); exact BK139.out⟩, ⟨by repeat (first | (with_reducible first | exact HB.out | apply below_alloc | apply pw_below_drewN | apply below_drew1 | refine below_set ?_ GE138.out | refine below_set ?_ GE139.out) | exact HB.out)⟩⟩
                      case round =>
                        clear H'
                        try clear c1
                        try clear c2
                        try clear p2
                        try clear c3
                        try clear c4
                        try clear p6
                        try clear c7
                        try clear c9
                        try clear c11
                        try clear c14
                        try clear c14b0
                        try clear c15
                        try clear c15b0
                        try clear c16
                        try clear c16b0
                        try clear c16b1
                        try clear c17
                        try clear c17b0
                        try clear c18
                        try clear c18b0
                        try clear c19
                        try clear c19b0
                        try clear c20
                        try clear c20b0
                        try clear c20b1
                        try clear c21
                        try clear c23
                        try clear c23b0
                        try clear c23b1
                        try clear c24
                        try clear c26
                        try clear c26b0
                        try clear c26b1
                        try clear c27
                        try clear c29
                        try clear c29b0
                        try clear c29b1
                        try clear c30
                        try clear c32
                        try clear c32b0
                        try clear c32b1
                        try clear c33
                        try clear c33b0
                        try clear c34
                        try clear c34b0
                        try clear c35
                        try clear c35b0
                        try clear c36
                        try clear c36b0
                        try clear c36b1
                        try clear c37
                        try clear c39
                        try clear c39b0
                        try clear c39b1
                        try clear c40
                        try clear c42
                        try clear c42b0
                        try clear c42b1
                        try clear c43
                        try clear c45
                        try clear c45b0
                        try clear c45b1
                        try clear c46
                        try clear c48
                        try clear c48b0
                        try clear c48b1
                        try clear hcz12_0
                        try clear hcz12_1
                        try clear hcz12_2
                        try clear hcz12_3
                        try clear hcz13_0
                        try clear hcz13_1
                        try clear hcz13_2
                        try clear hcz13_3
                        try clear hcz22_0
                        try clear hcz22_1
                        try clear hcz22_2
                        try clear hcz22_3
                        try clear hcz25_0
                        try clear hcz25_1
                        try clear hcz25_2
                        try clear hcz25_3
                        try clear hcz28_0
                        try clear hcz28_1
                        try clear hcz28_2
                        try clear hcz28_3
                        try clear hcz31_0
                        try clear hcz31_1
                        try clear hcz31_2
                        try clear hcz31_3
                        try clear hcz38_0
                        try clear hcz38_1
                        try clear hcz38_2
                        try clear hcz38_3
                        try clear hcz41_0
                        try clear hcz41_1
                        try clear hcz41_2
                        try clear hcz41_3
                        try clear hcz44_0
                        try clear hcz44_1
                        try clear hcz44_2
                        try clear hcz44_3
                        try clear hcz47_0
                        try clear hcz47_1
                        try clear hcz47_2
                        try clear hcz47_3
                        try clear hcz6_0
                        try clear hcz6_1
                        try clear hcz6_2
                        try clear hcz6_3
                        try clear hcz8_0
                        try clear hcz8_1
                        try clear hcz8_2
                        try clear hcz8_3
                        try clear hfz12_0
                        try clear hfz12_1
                        try clear hfz12_2
                        try clear hfz12_3
                        try clear hfz13_0
                        try clear hfz13_1
                        try clear hfz13_2
                        try clear hfz13_3
                        try clear hfz22_0
                        try clear hfz22_1
                        try clear hfz22_2
                        try clear hfz22_3
                        try clear hfz25_0
                        try clear hfz25_1
                        try clear hfz25_2
                        try clear hfz25_3
                        try clear hfz28_0
                        try clear hfz28_1
                        try clear hfz28_2
                        try clear hfz28_3
                        try clear hfz31_0
                        try clear hfz31_1
                        try clear hfz31_2
                        try clear hfz31_3
                        try clear hfz38_0
                        try clear hfz38_1
                        try clear hfz38_2
                        try clear hfz38_3
                        try clear hfz41_0
                        try clear hfz41_1
                        try clear hfz41_2
                        try clear hfz41_3
                        try clear hfz44_0
                        try clear hfz44_1
                        try clear hfz44_2
                        try clear hfz44_3
                        try clear hfz47_0
                        try clear hfz47_1
                        try clear hfz47_2
                        try clear hfz47_3
                        try clear hfz6_0
                        try clear hfz6_1
                        try clear hfz6_2
                        try clear hfz6_3
                        try clear hfz8_0
                        try clear hfz8_1
                        try clear hfz8_2
                        try clear hfz8_3
                        try clear p2
                        try clear p6
                        obtain ⟨x28_3, x140000_3, x140001_3, x140002_3, x140003_3, rfl, HA, HK3, BK138, BK139, HB⟩ := hrel
                        cases gk with
                        | zero => exact absurd HA.out (by simp [impl_ColumnsOf.l1])
                        | succ k3 =>
                          have H := HA.out
                          clear HA
                          simp only [impl_ColumnsOf.l1] at H
                          by_cases c49 : x28_3 < t135
                          · rw [if_pos c49] at H
                            have c49b0 : decide (x28_3 < t135) = true := decide_eq_true c49
                            clear c49
                            by_cases c50 : 0 ≤ x28_3
                            · rw [if_pos c50] at H
                              have c50b0 : decide (0 ≤ x28_3) = true := decide_eq_true c50
                              clear c50
                              by_cases c51 : x28_3 < 4
                              · rw [if_pos c51] at H
                                have c51b0 : decide (x28_3 < 4) = true := decide_eq_true c51
                                clear c51
                                by_cases c52 : x28_3 = 0
                                · rw [if_pos c52] at H
                                  have c52b0 : (x28_3 == 0) = true := beq_iff_eq.mpr c52
                                  have c52b1 : (x28_3 != 0) = false := bne_eq_false_iff_eq.mpr c52
                                  clear c52
                                  have H' := Aside0.mk H
                                  clear H
                                  have hnb53 := NB139_138.out
                                  have hnc53 := NB138_139.out
                                  have hcz54_0 : wr.cell? ⟨gb139, 0, none⟩ = some (.int .i64 x140000_3) := (blk_cell BK139.out 0).trans rfl
                                  have hcz54_1 : wr.cell? ⟨gb139, 1, none⟩ = some (.int .i64 x140001_3) := (blk_cell BK139.out 1).trans rfl
                                  have hcz54_2 : wr.cell? ⟨gb139, 2, none⟩ = some (.int .i64 x140002_3) := (blk_cell BK139.out 2).trans rfl
                                  have hcz54_3 : wr.cell? ⟨gb139, 3, none⟩ = some (.int .i64 x140003_3) := (blk_cell BK139.out 3).trans rfl
                                  have hfz54_0 := blk_frozen BK139.out 0
                                  have hfz54_1 := blk_frozen BK139.out 1
                                  have hfz54_2 := blk_frozen BK139.out 2
                                  have hfz54_3 := blk_frozen BK139.out 3
                                  go_wp2_with (first | ((with_reducible refine gate_dst (N := 32) rfl ?_); refine zIndexAt (i := 0) (n := 4) (t := 45) (e := 3) rfl rfl Try.underlying45 (by kernel_rfl) (by first | rfl | (go_simp; done)) (by first | rfl | (go_simp; done)) (by first | exact of_decide_eq_true (by with_reducible assumption) | exact eq_of_beq (by with_reducible assumption) | exact of_decide_eq_true (by assumption) | exact eq_of_beq (by assumption)) (by decide) ?_) | ((with_reducible refine gate_dst (N := 35) rfl ?_); refine zIndexAt (i := 0) (n := 4) (t := 45) (e := 3) rfl rfl Try.underlying45 (by kernel_rfl) (by first | rfl | (go_simp; done)) (by first | rfl | (go_simp; done)) (by first | exact of_decide_eq_true (by with_reducible assumption) | exact eq_of_beq (by with_reducible assumption) | exact of_decide_eq_true (by assumption) | exact eq_of_beq (by assumption)) (by decide) ?_))
                                  go_roundg k3
                                  case measure => have := HJ2.out; have := HK2.out; have := HK3.out; omega
                                  case rel => exact ⟨(wrap64 (x28_3 + 1)), (wrap64 (x140000_3 + 1)), (x140001_3), (x140002_3), (x140003_3), (by first | rfl | (simp; done) | (simp [*]; done)), H', ⟨by have := HJ2.out; have := HK2.out; have := HK3.out; omega⟩, ⟨by (with_reducible repeat (first | refine blk_drewN ?_ _ | refine blk_drew ?_ | refine blk_alloc ?_ _)); refine blk_far ?_ NB138_139.out _; (with_reducible repeat (first | refine blk_drewN ?_ _ | refine blk_drew ?_ | refine blk_alloc ?_ _)); exact BK138.out⟩, ⟨by (with_reducible repeat (first | refine blk_drewN ?_ _ | refine blk_drew ?_ | refine blk_alloc ?_ _)); refine blk_put (cs := #[.int .i64 x140000_3, .int .i64 x140001_3, .int .i64 x140002_3, .int .i64 x140003_3]) ?_ 0 _ rfl; (with_reducible repeat (first | refine blk_drewN ?_ _ | refine blk_drew ?_ | refine blk_alloc ?_ _)); exact BK139.out⟩, ⟨by repeat (first | (with_reducible first | exact HB.out | apply below_alloc | apply pw_below_drewN | apply below_drew1 | refine below_set ?_ GE138.out | refine below_set ?_ GE139.out) | exact HB.out)⟩⟩
                                · rw [if_neg c52] at H
                                  have c52b0 : (x28_3 == 0) = false := beq_eq_false_iff_ne.mpr c52
                                  have c52b1 : (x28_3 != 0) = true := bne_iff_ne.mpr c52
                                  by_cases c55 : x28_3 = 1
                                  · rw [if_pos c55] at H
                                    have c55b0 : (x28_3 == 1) = true := beq_iff_eq.mpr c55
                                    have c55b1 : (x28_3 != 1) = false := bne_eq_false_iff_eq.mpr c55
                                    clear c55
                                    have H' := Aside0.mk H
                                    clear H
                                    have hnb56 := NB139_138.out
                                    have hnc56 := NB138_139.out
                                    have hcz57_0 : wr.cell? ⟨gb139, 0, none⟩ = some (.int .i64 x140000_3) := (blk_cell BK139.out 0).trans rfl
                                    have hcz57_1 : wr.cell? ⟨gb139, 1, none⟩ = some (.int .i64 x140001_3) := (blk_cell BK139.out 1).trans rfl
                                    have hcz57_2 : wr.cell? ⟨gb139, 2, none⟩ = some (.int .i64 x140002_3) := (blk_cell BK139.out 2).trans rfl
                                    have hcz57_3 : wr.cell? ⟨gb139, 3, none⟩ = some (.int .i64 x140003_3) := (blk_cell BK139.out 3).trans rfl
                                    have hfz57_0 := blk_frozen BK139.out 0
                                    have hfz57_1 := blk_frozen BK139.out 1
                                    have hfz57_2 := blk_frozen BK139.out 2
                                    have hfz57_3 := blk_frozen BK139.out 3
                                    go_wp2_with (first | ((with_reducible refine gate_dst (N := 32) rfl ?_); refine zIndexAt (i := 1) (n := 4) (t := 45) (e := 3) rfl rfl Try.underlying45 (by kernel_rfl) (by first | rfl | (go_simp; done)) (by first | rfl | (go_simp; done)) (by first | exact of_decide_eq_true (by with_reducible assumption) | exact eq_of_beq (by with_reducible assumption) | exact of_decide_eq_true (by assumption) | exact eq_of_beq (by assumption)) (by decide) ?_) | ((with_reducible refine gate_dst (N := 35) rfl ?_); refine zIndexAt (i := 1) (n := 4) (t := 45) (e := 3) rfl rfl Try.underlying45 (by kernel_rfl) (by first | rfl | (go_simp; done)) (by first | rfl | (go_simp; done)) (by first | exact of_decide_eq_true (by with_reducible assumption) | exact eq_of_beq (by with_reducible assumption) | exact of_decide_eq_true (by assumption) | exact eq_of_beq (by assumption)) (by decide) ?_))
                                    go_roundg k3
                                    case measure => have := HJ2.out; have := HK2.out; have := HK3.out; omega
                                    case rel => exact ⟨(wrap64 (x28_3 + 1)), (x140000_3), (wrap64 (x140001_3 + 1)), (x140002_3), (x140003_3), (by first | rfl | (simp; done) | (simp [*]; done)), H', ⟨by have := HJ2.out; have := HK2.out; have := HK3.out; omega⟩, ⟨by (with_reducible repeat (first | refine blk_drewN ?_ _ | refine blk_drew ?_ | refine blk_alloc ?_ _)); refine blk_far ?_ NB138_139.out _; (with_reducible repeat (first | refine blk_drewN ?_ _ | refine blk_drew ?_ | refine blk_alloc ?_ _)); exact BK138.out⟩, ⟨by (with_reducible repeat (first | refine blk_drewN ?_ _ | refine blk_drew ?_ | refine blk_alloc ?_ _)); refine blk_put (cs := #[.int .i64 x140000_3, .int .i64 x140001_3, .int .i64 x140002_3, .int .i64 x140003_3]) ?_ 1 _ rfl; (with_reducible repeat (first | refine blk_drewN ?_ _ | refine blk_drew ?_ | refine blk_alloc ?_ _)); exact BK139.out⟩, ⟨by repeat (first | (with_reducible first | exact HB.out | apply below_alloc | apply pw_below_drewN | apply below_drew1 | refine below_set ?_ GE138.out | refine below_set ?_ GE139.out) | exact HB.out)⟩⟩
                                  · rw [if_neg c55] at H
                                    have c55b0 : (x28_3 == 1) = false := beq_eq_false_iff_ne.mpr c55
                                    have c55b1 : (x28_3 != 1) = true := bne_iff_ne.mpr c55
                                    by_cases c58 : x28_3 = 2
                                    · rw [if_pos c58] at H
                                      have c58b0 : (x28_3 == 2) = true := beq_iff_eq.mpr c58
                                      have c58b1 : (x28_3 != 2) = false := bne_eq_false_iff_eq.mpr c58
                                      clear c58
                                      have H' := Aside0.mk H
                                      clear H
                                      have hnb59 := NB139_138.out
                                      have hnc59 := NB138_139.out
                                      have hcz60_0 : wr.cell? ⟨gb139, 0, none⟩ = some (.int .i64 x140000_3) := (blk_cell BK139.out 0).trans rfl
                                      have hcz60_1 : wr.cell? ⟨gb139, 1, none⟩ = some (.int .i64 x140001_3) := (blk_cell BK139.out 1).trans rfl
                                      have hcz60_2 : wr.cell? ⟨gb139, 2, none⟩ = some (.int .i64 x140002_3) := (blk_cell BK139.out 2).trans rfl
                                      have hcz60_3 : wr.cell? ⟨gb139, 3, none⟩ = some (.int .i64 x140003_3) := (blk_cell BK139.out 3).trans rfl
                                      have hfz60_0 := blk_frozen BK139.out 0
                                      have hfz60_1 := blk_frozen BK139.out 1
                                      have hfz60_2 := blk_frozen BK139.out 2
                                      have hfz60_3 := blk_frozen BK139.out 3
                                      go_wp2_with (first | ((with_reducible refine gate_dst (N := 32) rfl ?_); refine zIndexAt (i := 2) (n := 4) (t := 45) (e := 3) rfl rfl Try.underlying45 (by kernel_rfl) (by first | rfl | (go_simp; done)) (by first | rfl | (go_simp; done)) (by first | exact of_decide_eq_true (by with_reducible assumption) | exact eq_of_beq (by with_reducible assumption) | exact of_decide_eq_true (by assumption) | exact eq_of_beq (by assumption)) (by decide) ?_) | ((with_reducible refine gate_dst (N := 35) rfl ?_); refine zIndexAt (i := 2) (n := 4) (t := 45) (e := 3) rfl rfl Try.underlying45 (by kernel_rfl) (by first | rfl | (go_simp; done)) (by first | rfl | (go_simp; done)) (by first | exact of_decide_eq_true (by with_reducible assumption) | exact eq_of_beq (by with_reducible assumption) | exact of_decide_eq_true (by assumption) | exact eq_of_beq (by assumption)) (by decide) ?_))
                                      go_roundg k3
                                      case measure => have := HJ2.out; have := HK2.out; have := HK3.out; omega
                                      case rel => exact ⟨(wrap64 (x28_3 + 1)), (x140000_3), (x140001_3), (wrap64 (x140002_3 + 1)), (x140003_3), (by first | rfl | (simp; done) | (simp [*]; done)), H', ⟨by have := HJ2.out; have := HK2.out; have := HK3.out; omega⟩, ⟨by (with_reducible repeat (first | refine blk_drewN ?_ _ | refine blk_drew ?_ | refine blk_alloc ?_ _)); refine blk_far ?_ NB138_139.out _; (with_reducible repeat (first | refine blk_drewN ?_ _ | refine blk_drew ?_ | refine blk_alloc ?_ _)); exact BK138.out⟩, ⟨by (with_reducible repeat (first | refine blk_drewN ?_ _ | refine blk_drew ?_ | refine blk_alloc ?_ _)); refine blk_put (cs := #[.int .i64 x140000_3, .int .i64 x140001_3, .int .i64 x140002_3, .int .i64 x140003_3]) ?_ 2 _ rfl; (with_reducible repeat (first | refine blk_drewN ?_ _ | refine blk_drew ?_ | refine blk_alloc ?_ _)); exact BK139.out⟩, ⟨by repeat (first | (with_reducible first | exact HB.out | apply below_alloc | apply pw_below_drewN | apply below_drew1 | refine below_set ?_ GE138.out | refine below_set ?_ GE139.out) | exact HB.out)⟩⟩
                                    · rw [if_neg c58] at H
                                      have c58b0 : (x28_3 == 2) = false := beq_eq_false_iff_ne.mpr c58
                                      have c58b1 : (x28_3 != 2) = true := bne_iff_ne.mpr c58
                                      by_cases c61 : x28_3 = 3
                                      · rw [if_pos c61] at H
                                        have c61b0 : (x28_3 == 3) = true := beq_iff_eq.mpr c61
                                        have c61b1 : (x28_3 != 3) = false := bne_eq_false_iff_eq.mpr c61
                                        clear c61
                                        have H' := Aside0.mk H
                                        clear H
                                        have hnb62 := NB139_138.out
                                        have hnc62 := NB138_139.out
                                        have hcz63_0 : wr.cell? ⟨gb139, 0, none⟩ = some (.int .i64 x140000_3) := (blk_cell BK139.out 0).trans rfl
                                        have hcz63_1 : wr.cell? ⟨gb139, 1, none⟩ = some (.int .i64 x140001_3) := (blk_cell BK139.out 1).trans rfl
                                        have hcz63_2 : wr.cell? ⟨gb139, 2, none⟩ = some (.int .i64 x140002_3) := (blk_cell BK139.out 2).trans rfl
                                        have hcz63_3 : wr.cell? ⟨gb139, 3, none⟩ = some (.int .i64 x140003_3) := (blk_cell BK139.out 3).trans rfl
                                        have hfz63_0 := blk_frozen BK139.out 0
                                        have hfz63_1 := blk_frozen BK139.out 1
                                        have hfz63_2 := blk_frozen BK139.out 2
                                        have hfz63_3 := blk_frozen BK139.out 3
                                        go_wp2_with (first | ((with_reducible refine gate_dst (N := 32) rfl ?_); refine zIndexAt (i := 3) (n := 4) (t := 45) (e := 3) rfl rfl Try.underlying45 (by kernel_rfl) (by first | rfl | (go_simp; done)) (by first | rfl | (go_simp; done)) (by first | exact of_decide_eq_true (by with_reducible assumption) | exact eq_of_beq (by with_reducible assumption) | exact of_decide_eq_true (by assumption) | exact eq_of_beq (by assumption)) (by decide) ?_) | ((with_reducible refine gate_dst (N := 35) rfl ?_); refine zIndexAt (i := 3) (n := 4) (t := 45) (e := 3) rfl rfl Try.underlying45 (by kernel_rfl) (by first | rfl | (go_simp; done)) (by first | rfl | (go_simp; done)) (by first | exact of_decide_eq_true (by with_reducible assumption) | exact eq_of_beq (by with_reducible assumption) | exact of_decide_eq_true (by assumption) | exact eq_of_beq (by assumption)) (by decide) ?_))
                                        go_roundg k3
                                        case measure => have := HJ2.out; have := HK2.out; have := HK3.out; omega
                                        case rel => exact ⟨(wrap64 (x28_3 + 1)), (x140000_3), (x140001_3), (x140002_3), (wrap64 (x140003_3 + 1)), (by first | rfl | (simp; done) | (simp [*]; done)), H', ⟨by have := HJ2.out; have := HK2.out; have := HK3.out; omega⟩, ⟨by (with_reducible repeat (first | refine blk_drewN ?_ _ | refine blk_drew ?_ | refine blk_alloc ?_ _)); refine blk_far ?_ NB138_139.out _; (with_reducible repeat (first | refine blk_drewN ?_ _ | refine blk_drew ?_ | refine blk_alloc ?_ _)); exact BK138.out⟩, ⟨by (with_reducible repeat (first | refine blk_drewN ?_ _ | refine blk_drew ?_ | refine blk_alloc ?_ _)); refine blk_put (cs := #[.int .i64 x140000_3, .int .i64 x140001_3, .int .i64 x140002_3, .int .i64 x140003_3]) ?_ 3 _ rfl; (with_reducible repeat (first | refine blk_drewN ?_ _ | refine blk_drew ?_ | refine blk_alloc ?_ _)); exact BK139.out⟩, ⟨by repeat (first | (with_reducible first | exact HB.out | apply below_alloc | apply pw_below_drewN | apply below_drew1 | refine below_set ?_ GE138.out | refine below_set ?_ GE139.out) | exact HB.out)⟩⟩
                                      · rw [if_neg c61] at H
                                        exact absurd H (by simp)
                              · rw [if_neg c51] at H
                                exact absurd H (by simp)
                            · rw [if_neg c50] at H
                              exact absurd H (by simp)
                          · rw [if_neg c49] at H
                            have c49b0 : decide (x28_3 < t135) = false := decide_eq_false c49
                            clear c49
                            have H' := Aside0.mk H
                            clear H
                            go_wp2
                            go_roundg k3
                            case measure => have := HJ2.out; have := HK2.out; have := HK3.out; omega
                            case rel => exact ⟨(wrap64 (x24_2 + 1)), (x140000_3), (x140001_3), (x140002_3), (x140003_3), (by first | rfl | (simp; done) | (simp [*]; done)), H', ⟨by have := HJ2.out; have := HK2.out; have := HK3.out; omega⟩, ⟨by (with_reducible repeat (first | refine blk_drewN ?_ _ | refine blk_drew ?_ | refine blk_alloc ?_ _)); exact BK138.out⟩, ⟨by (with_reducible repeat (first | refine blk_drewN ?_ _ | refine blk_drew ?_ | refine blk_alloc ?_ _)); exact BK139.out⟩, ⟨by repeat (first | (with_reducible first | exact HB.out | apply below_alloc | apply pw_below_drewN | apply below_drew1 | refine below_set ?_ GE138.out | refine below_set ?_ GE139.out) | exact HB.out)⟩⟩
                    · rw [if_neg c48] at H
                      have c48b0 : (x24_2 == 2) = false := beq_eq_false_iff_ne.mpr c48
                      have c48b1 : (x24_2 != 2) = true := bne_iff_ne.mpr c48
                      by_cases c64 : x24_2 = 3
                      · rw [if_pos c64] at H
                        have c64b0 : (x24_2 == 3) = true := beq_iff_eq.mpr c64
                        have c64b1 : (x24_2 != 3) = false := bne_eq_false_iff_eq.mpr c64
                        clear c64
                        have H' := Aside0.mk H
                        clear H
                        go_wp2_with (first | ((with_reducible refine gate_dst (N := 26) rfl ?_); refine zIndexVal (i := 3) (n := 4) (t := 45) (e := 3) rfl rfl Try.underlying45 (by kernel_rfl) (by first | rfl | (go_simp; done)) (by first | rfl | (go_simp; done)) (by first | exact of_decide_eq_true (by with_reducible assumption) | exact eq_of_beq (by with_reducible assumption) | exact of_decide_eq_true (by assumption) | exact eq_of_beq (by assumption)) (by decide) Try.underlying3 rfl ?_))
                        go_loopg [28] k2 (fun kq v28 w' => ∃ (x28_3 : Int) (x140000_3 : Int) (x140001_3 : Int) (x140002_3 : Int) (x140003_3 : Int), v28 = .int .i64 x28_3 ∧ Aside0 (impl_ColumnsOf.l1 kq x24_2 t136 x28_3 x140000_3 x140001_3 x140002_3 x140003_3 t133 t134 t135 t136 = some (r1, r2)) ∧ Aside0 (kq ≤ k2) ∧ Aside0 (w'.heap[gb138]? = some (.cells #[.int .i64 t133, .int .i64 t134, .int .i64 t135, .int .i64 t136] 45 (0, 0))) ∧ Aside0 (w'.heap[gb139]? = some (.cells #[.int .i64 x140000_3, .int .i64 x140001_3, .int .i64 x140002_3, .int .i64 x140003_3] 45 (0, 0))) ∧ Aside0 (Below w.heap.size w w'))
                        case atStart => exact ⟨(0), (x140000_2), (x140001_2), (x140002_2), (x140003_2), (by first | rfl | (simp; done) | (simp [*]; done)), H', ⟨Nat.le_refl _⟩, ⟨by (with_reducible repeat (first | refine blk_drewN ?_ _ | refine blk_drew ?_ | refine blk_alloc ?_ _)); exact BK138.out⟩, ⟨by (with_reducible repeat (first | refine blk_drewN ?_ _ | refine blk_drew ?_ | refine blk_alloc ?_ _)); exact BK139.out⟩, ⟨by repeat (first | (with_reducible first | exact HB.out | apply below_alloc | apply pw_below_drewN | apply below_drew1 | refine below_set ?_ GE138.out | refine below_set ?_ GE139.out) | exact HB.out)⟩⟩
                        case round =>
                          clear H'
                          try clear c1
                          try clear c2
                          try clear p2
                          try clear c3
                          try clear c4
                          try clear c5
                          try clear c6
                          try clear p6
                          try clear c7
                          try clear c9
                          try clear c11
                          try clear c14
                          try clear c14b0
                          try clear c15
                          try clear c15b0
                          try clear c16
                          try clear c16b0
                          try clear c16b1
                          try clear c17
                          try clear c17b0
                          try clear c18
                          try clear c18b0
                          try clear c19
                          try clear c19b0
                          try clear c20
                          try clear c20b0
                          try clear c20b1
                          try clear c21
                          try clear c23
                          try clear c23b0
                          try clear c23b1
                          try clear c24
                          try clear c26
                          try clear c26b0
                          try clear c26b1
                          try clear c27
                          try clear c29
                          try clear c29b0
                          try clear c29b1
                          try clear c30
                          try clear c32
                          try clear c32b0
                          try clear c32b1
                          try clear c33
                          try clear c33b0
                          try clear c34
                          try clear c34b0
                          try clear c35
                          try clear c35b0
                          try clear c36
                          try clear c36b0
                          try clear c36b1
                          try clear c37
                          try clear c39
                          try clear c39b0
                          try clear c39b1
                          try clear c40
                          try clear c42
                          try clear c42b0
                          try clear c42b1
                          try clear c43
                          try clear c45
                          try clear c45b0
                          try clear c45b1
                          try clear c46
                          try clear c48
                          try clear c48b0
                          try clear c48b1
                          try clear c49
                          try clear c49b0
                          try clear c50
                          try clear c50b0
                          try clear c51
                          try clear c51b0
                          try clear c52
                          try clear c52b0
                          try clear c52b1
                          try clear c53
                          try clear c55
                          try clear c55b0
                          try clear c55b1
                          try clear c56
                          try clear c58
                          try clear c58b0
                          try clear c58b1
                          try clear c59
                          try clear c61
                          try clear c61b0
                          try clear c61b1
                          try clear c62
                          try clear c64
                          try clear c64b0
                          try clear c64b1
                          try clear p64
                          try clear hcz12_0
                          try clear hcz12_1
                          try clear hcz12_2
                          try clear hcz12_3
                          try clear hcz13_0
                          try clear hcz13_1
                          try clear hcz13_2
                          try clear hcz13_3
                          try clear hcz22_0
                          try clear hcz22_1
                          try clear hcz22_2
                          try clear hcz22_3
                          try clear hcz25_0
                          try clear hcz25_1
                          try clear hcz25_2
                          try clear hcz25_3
                          try clear hcz28_0
                          try clear hcz28_1
                          try clear hcz28_2
                          try clear hcz28_3
                          try clear hcz31_0
                          try clear hcz31_1
                          try clear hcz31_2
                          try clear hcz31_3
                          try clear hcz38_0
                          try clear hcz38_1
                          try clear hcz38_2
                          try clear hcz38_3
                          try clear hcz41_0
                          try clear hcz41_1
                          try clear hcz41_2
                          try clear hcz41_3
                          try clear hcz44_0
                          try clear hcz44_1
                          try clear hcz44_2
                          try clear hcz44_3
                          try clear hcz47_0
                          try clear hcz47_1
                          try clear hcz47_2
                          try clear hcz47_3
                          try clear hcz54_0
                          try clear hcz54_1
                          try clear hcz54_2
                          try clear hcz54_3
                          try clear hcz57_0
                          try clear hcz57_1
                          try clear hcz57_2
                          try clear hcz57_3
                          try clear hcz60_0
                          try clear hcz60_1
                          try clear hcz60_2
                          try clear hcz60_3
                          try clear hcz63_0
                          try clear hcz63_1
                          try clear hcz63_2
                          try clear hcz63_3
                          try clear hcz6_0
                          try clear hcz6_1
                          try clear hcz6_2
                          try clear hcz6_3
                          try clear hcz8_0
                          try clear hcz8_1
                          try clear hcz8_2
                          try clear hcz8_3
                          try clear hfz12_0
                          try clear hfz12_1
                          try clear hfz12_2
                          try clear hfz12_3
                          try clear hfz13_0
                          try clear hfz13_1
                          try clear hfz13_2
                          try clear hfz13_3
                          try clear hfz22_0
                          try clear hfz22_1
                          try clear hfz22_2
                          try clear hfz22_3
                          try clear hfz25_0
                          try clear hfz25_1
                          try clear hfz25_2
                          try clear hfz25_3
                          try clear hfz28_0
                          try clear hfz28_1
                          try clear hfz28_2
                          try clear hfz28_3
                          try clear hfz31_0
                          try clear hfz31_1
                          try clear hfz31_2
                          try clear hfz31_3
                          try clear hfz38_0
                          try clear hfz38_1
                          try clear hfz38_2
                          try clear hfz38_3
                          try clear hfz41_0
                          try clear hfz41_1
                          try clear hfz41_2
                          try clear hfz41_3
                          try clear hfz44_0
                          try clear hfz44_1
                          try clear hfz44_2
                          try clear hfz44_3
                          try clear hfz47_0
                          try clear hfz47_1
                          try clear hfz47_2
                          try clear hfz47_3
                          try clear hfz54_0
                          try clear hfz54_1
                          try clear hfz54_2
                          try clear hfz54_3
                          try clear hfz57_0
                          try clear hfz57_1
                          try clear hfz57_2
                          try clear hfz57_3
                          try clear hfz60_0
                          try clear hfz60_1
                          try clear hfz60_2
                          try clear hfz60_3
                          try clear hfz63_0
                          try clear hfz63_1
                          try clear hfz63_2
                          try clear hfz63_3
                          try clear hfz6_0
                          try clear hfz6_1
                          try clear hfz6_2
                          try clear hfz6_3
                          try clear hfz8_0
                          try clear hfz8_1
                          try clear hfz8_2
                          try clear hfz8_3
                          try clear p2
                          try clear p6
                          obtain ⟨x28_3, x140000_3, x140001_3, x140002_3, x140003_3, rfl, HA, HK3, BK138, BK139, HB⟩ := hrel
                          cases gk with
                          | zero => exact absurd HA.out (by simp [impl_ColumnsOf.l1])
                          | succ k3 =>
                            have H := HA.out
                            clear HA
                            simp only [impl_ColumnsOf.l1] at H
                            by_cases c65 : x28_3 < t136
                            · rw [if_pos c65] at H
                              have c65b0 : decide (x28_3 < t136) = true := decide_eq_true c65
                              clear c65
                              by_cases c66 : 0 ≤ x28_3
                              · rw [if_pos c66] at H
                                have c66b0 : decide (0 ≤ x28_3) = true := decide_eq_true c66
                                clear c66
                                by_cases c67 : x28_3 < 4
                                · rw [if_pos c67] at H
                                  have c67b0 : decide (x28_3 < 4) = true := decide_eq_true c67
                                  clear c67
                                  by_cases c68 : x28_3 = 0
                                  · rw [if_pos c68] at H
                                    have c68b0 : (x28_3 == 0) = true := beq_iff_eq.mpr c68
                                    have c68b1 : (x28_3 != 0) = false := bne_eq_false_iff_eq.mpr c68
                                    clear c68
                                    have H' := Aside0.mk H
                                    clear H
                                    have hnb69 := NB139_138.out
                                    have hnc69 := NB138_139.out
                                    have hcz70_0 : wr.cell? ⟨gb139, 0, none⟩ = some (.int .i64 x140000_3) := (blk_cell BK139.out 0).trans rfl
                                    have hcz70_1 : wr.cell? ⟨gb139, 1, none⟩ = some (.int .i64 x140001_3) := (blk_cell BK139.out 1).trans rfl
                                    have hcz70_2 : wr.cell? ⟨gb139, 2, none⟩ = some (.int .i64 x140002_3) := (blk_cell BK139.out 2).trans rfl
                                    have hcz70_3 : wr.cell? ⟨gb139, 3, none⟩ = some (.int .i64 x140003_3) := (blk_cell BK139.out 3).trans rfl
                                    have hfz70_0 := blk_frozen BK139.out 0
                                    have hfz70_1 := blk_frozen BK139.out 1
                                    have hfz70_2 := blk_frozen BK139.out 2
                                    have hfz70_3 := blk_frozen BK139.out 3
                                    go_wp2_with (first | ((with_reducible refine gate_dst (N := 32) rfl ?_); refine zIndexAt (i := 0) (n := 4) (t := 45) (e := 3) rfl rfl Try.underlying45 (by kernel_rfl) (by first | rfl | (go_simp; done)) (by first | rfl | (go_simp; done)) (by first | exact of_decide_eq_true (by with_reducible assumption) | exact eq_of_beq (by with_reducible assumption) | exact of_decide_eq_true (by assumption) | exact eq_of_beq (by assumption)) (by decide) ?_) | ((with_reducible refine gate_dst (N := 35) rfl ?_); refine zIndexAt (i := 0) (n := 4) (t := 45) (e := 3) rfl rfl Try.underlying45 (by kernel_rfl) (by first | rfl | (go_simp; done)) (by first | rfl | (go_simp; done)) (by first | exact of_decide_eq_true (by with_reducible assumption) | exact eq_of_beq (by with_reducible assumption) | exact of_decide_eq_true (by assumption) | exact eq_of_beq (by assumption)) (by decide) ?_))
                                    go_roundg k3
                                    case measure => have := HJ2.out; have := HK2.out; have := HK3.out; omega
                                    case rel => exact ⟨(wrap64 (x28_3 + 1)), (wrap64 (x140000_3 + 1)), (x140001_3), (x140002_3), (x140003_3), (by first | rfl | (simp; done) | (simp [*]; done)), H', ⟨by have := HJ2.out; have := HK2.out; have := HK3.out; omega⟩, ⟨by (with_reducible repeat (first | refine blk_drewN ?_ _ | refine blk_drew ?_ | refine blk_alloc ?_ _)); refine blk_far ?_ NB138_139.out _; (with_reducible repeat (first | refine blk_drewN ?_ _ | refine blk_drew ?_ | refine blk_alloc ?_ _)); exact BK138.out⟩, ⟨by (with_reducible repeat (first | refine blk_drewN ?_ _ | refine blk_drew ?_ | refine blk_alloc ?_ _)); refine blk_put (cs := #[.int .i64 x140000_3, .int .i64 x140001_3, .int .i64 x140002_3, .int .i64 x140003_3]) ?_ 0 _ rfl; (with_reducible repeat (first | refine blk_drewN ?_ _ | refine blk_drew ?_ | refine blk_alloc ?_ _)); exact BK139.out⟩, ⟨by repeat (first | (with_reducible first | exact HB.out | apply below_alloc | apply pw_below_drewN | apply below_drew1 | refine below_set ?_ GE138.out | refine below_set ?_ GE139.out) | exact HB.out)⟩⟩
                                  · rw [if_neg c68] at H
                                    have c68b0 : (x28_3 == 0) = false := beq_eq_false_iff_ne.mpr c68
                                    have c68b1 : (x28_3 != 0) = true := bne_iff_ne.mpr c68
                                    by_cases c71 : x28_3 = 1
                                    · rw [if_pos c71] at H
                                      have c71b0 : (x28_3 == 1) = true := beq_iff_eq.mpr c71
                                      have c71b1 : (x28_3 != 1) = false := bne_eq_false_iff_eq.mpr c71
                                      clear c71
                                      have H' := Aside0.mk H
                                      clear H
                                      have hnb72 := NB139_138.out
                                      have hnc72 := NB138_139.out
                                      have hcz73_0 : wr.cell? ⟨gb139, 0, none⟩ = some (.int .i64 x140000_3) := (blk_cell BK139.out 0).trans rfl
                                      have hcz73_1 : wr.cell? ⟨gb139, 1, none⟩ = some (.int .i64 x140001_3) := (blk_cell BK139.out 1).trans rfl
                                      have hcz73_2 : wr.cell? ⟨gb139, 2, none⟩ = some (.int .i64 x140002_3) := (blk_cell BK139.out 2).trans rfl
                                      have hcz73_3 : wr.cell? ⟨gb139, 3, none⟩ = some (.int .i64 x140003_3) := (blk_cell BK139.out 3).trans rfl
                                      have hfz73_0 := blk_frozen BK139.out 0
                                      have hfz73_1 := blk_frozen BK139.out 1
                                      have hfz73_2 := blk_frozen BK139.out 2
                                      have hfz73_3 := blk_frozen BK139.out 3
                                      go_wp2_with (first | ((with_reducible refine gate_dst (N := 32) rfl ?_); refine zIndexAt (i := 1) (n := 4) (t := 45) (e := 3) rfl rfl Try.underlying45 (by kernel_rfl) (by first | rfl | (go_simp; done)) (by first | rfl | (go_simp; done)) (by first | exact of_decide_eq_true (by with_reducible assumption) | exact eq_of_beq (by with_reducible assumption) | exact of_decide_eq_true (by assumption) | exact eq_of_beq (by assumption)) (by decide) ?_) | ((with_reducible refine gate_dst (N := 35) rfl ?_); refine zIndexAt (i := 1) (n := 4) (t := 45) (e := 3) rfl rfl Try.underlying45 (by kernel_rfl) (by first | rfl | (go_simp; done)) (by first | rfl | (go_simp; done)) (by first | exact of_decide_eq_true (by with_reducible assumption) | exact eq_of_beq (by with_reducible assumption) | exact of_decide_eq_true (by assumption) | exact eq_of_beq (by assumption)) (by decide) ?_))
                                      go_roundg k3
                                      case measure => have := HJ2.out; have := HK2.out; have := HK3.out; omega
                                      case rel => exact ⟨(wrap64 (x28_3 + 1)), (x140000_3), (wrap64 (x140001_3 + 1)), (x140002_3), (x140003_3), (by first | rfl | (simp; done) | (simp [*]; done)), H', ⟨by have := HJ2.out; have := HK2.out; have := HK3.out; omega⟩, ⟨by (with_reducible repeat (first | refine blk_drewN ?_ _ | refine blk_drew ?_ | refine blk_alloc ?_ _)); refine blk_far ?_ NB138_139.out _; (with_reducible repeat (first | refine blk_drewN ?_ _ | refine blk_drew ?_ | refine blk_alloc ?_ _)); exact BK138.out⟩, ⟨by (with_reducible repeat (first | refine blk_drewN ?_ _ | refine blk_drew ?_ | refine blk_alloc ?_ _)); refine blk_put (cs := #[.int .i64 x140000_3, .int .i64 x140001_3, .int .i64 x140002_3, .int .i64 x140003_3]) ?_ 1 _ rfl; (with_reducible repeat (first | refine blk_drewN ?_ _ | refine blk_drew ?_ | refine blk_alloc ?_ _)); exact BK139.out⟩, ⟨by repeat (first | (with_reducible first | exact HB.out | apply below_alloc | apply pw_below_drewN | apply below_drew1 | refine below_set ?_ GE138.out | refine below_set ?_ GE139.out) | exact HB.out)⟩⟩
                                    · rw [if_neg c71] at H
                                      have c71b0 : (x28_3 == 1) = false := beq_eq_false_iff_ne.mpr c71
                                      have c71b1 : (x28_3 != 1) = true := bne_iff_ne.mpr c71
                                      by_cases c74 : x28_3 = 2
                                      · rw [if_pos c74] at H
                                        have c74b0 : (x28_3 == 2) = true := beq_iff_eq.mpr c74
                                        have c74b1 : (x28_3 != 2) = false := bne_eq_false_iff_eq.mpr c74
                                        clear c74
                                        have H' := Aside0.mk H
                                        clear H
                                        have hnb75 := NB139_138.out
                                        have hnc75 := NB138_139.out
                                        have hcz76_0 : wr.cell? ⟨gb139, 0, none⟩ = some (.int .i64 x140000_3) := (blk_cell BK139.out 0).trans rfl
                                        have hcz76_1 : wr.cell? ⟨gb139, 1, none⟩ = some (.int .i64 x140001_3) := (blk_cell BK139.out 1).trans rfl
                                        have hcz76_2 : wr.cell? ⟨gb139, 2, none⟩ = some (.int .i64 x140002_3) := (blk_cell BK139.out 2).trans rfl
                                        have hcz76_3 : wr.cell? ⟨gb139, 3, none⟩ = some (.int .i64 x140003_3) := (blk_cell BK139.out 3).trans rfl
                                        have hfz76_0 := blk_frozen BK139.out 0
                                        have hfz76_1 := blk_frozen BK139.out 1
                                        have hfz76_2 := blk_frozen BK139.out 2
                                        have hfz76_3 := blk_frozen BK139.out 3
                                        go_wp2_with (first | ((with_reducible refine gate_dst (N := 32) rfl ?_); refine zIndexAt (i := 2) (n := 4) (t := 45) (e := 3) rfl rfl Try.underlying45 (by kernel_rfl) (by first | rfl | (go_simp; done)) (by first | rfl | (go_simp; done)) (by first | exact of_decide_eq_true (by with_reducible assumption) | exact eq_of_beq (by with_reducible assumption) | exact of_decide_eq_true (by assumption) | exact eq_of_beq (by assumption)) (by decide) ?_) | ((with_reducible refine gate_dst (N := 35) rfl ?_); refine zIndexAt (i := 2) (n := 4) (t := 45) (e := 3) rfl rfl Try.underlying45 (by kernel_rfl) (by first | rfl | (go_simp; done)) (by first | rfl | (go_simp; done)) (by first | exact of_decide_eq_true (by with_reducible assumption) | exact eq_of_beq (by with_reducible assumption) | exact of_decide_eq_true (by assumption) | exact eq_of_beq (by assumption)) (by decide) ?_))
                                        go_roundg k3
                                        case measure => have := HJ2.out; have := HK2.out; have := HK3.out; omega
                                        case rel => exact ⟨(wrap64 (x28_3 + 1)), (x140000_3), (x140001_3), (wrap64 (x140002_3 + 1)), (x140003_3), (by first | rfl | (simp; done) | (simp [*]; done)), H', ⟨by have := HJ2.out; have := HK2.out; have := HK3.out; omega⟩, ⟨by (with_reducible repeat (first | refine blk_drewN ?_ _ | refine blk_drew ?_ | refine blk_alloc ?_ _)); refine blk_far ?_ NB138_139.out _; (with_reducible repeat (first | refine blk_drewN ?_ _ | refine blk_drew ?_ | refine blk_alloc ?_ _)); exact BK138.out⟩, ⟨by (with_reducible repeat (first | refine blk_drewN ?_ _ | refine blk_drew ?_ | refine blk_alloc ?_ _)); refine blk_put (cs := #[.int .i64 x140000_3, .int .i64 x140001_3, .int .i64 x140002_3, .int .i64 x140003_3]) ?_ 2 _ rfl; (with_reducible repeat (first | refine blk_drewN ?_ _ | refine blk_drew ?_ | refine blk_alloc ?_ _)); exact BK139.out⟩, ⟨by repeat (first | (with_reducible first | exact HB.out | apply below_alloc | apply pw_below_drewN | apply below_drew1 | refine below_set ?_ GE138.out | refine below_set ?_ GE139.out) | exact HB.out)⟩⟩
                                      · rw [if_neg c74] at H
                                        have c74b0 : (x28_3 == 2) = false := beq_eq_false_iff_ne.mpr c74
                                        have c74b1 : (x28_3 != 2) = true := bne_iff_ne.mpr c74
                                        by_cases c77 : x28_3 = 3
                                        · rw [if_pos c77] at H
                                          have c77b0 : (x28_3 == 3) = true := beq_iff_eq.mpr c77
                                          have c77b1 : (x28_3 != 3) = false := bne_eq_false_iff_eq.mpr c77
                                          clear c77
                                          have H' := Aside0.mk H
                                          clear H
                                          have hnb78 := NB139_138.out
                                          have hnc78 := NB138_139.out
                                          have hcz79_0 : wr.cell? ⟨gb139, 0, none⟩ = some (.int .i64 x140000_3) := (blk_cell BK139.out 0).trans rfl
                                          have hcz79_1 : wr.cell? ⟨gb139, 1, none⟩ = some (.int .i64 x140001_3) := (blk_cell BK139.out 1).trans rfl
                                          have hcz79_2 : wr.cell? ⟨gb139, 2, none⟩ = some (.int .i64 x140002_3) := (blk_cell BK139.out 2).trans rfl
                                          have hcz79_3 : wr.cell? ⟨gb139, 3, none⟩ = some (.int .i64 x140003_3) := (blk_cell BK139.out 3).trans rfl
                                          have hfz79_0 := blk_frozen BK139.out 0
                                          have hfz79_1 := blk_frozen BK139.out 1
                                          have hfz79_2 := blk_frozen BK139.out 2
                                          have hfz79_3 := blk_frozen BK139.out 3
                                          go_wp2_with (first | ((with_reducible refine gate_dst (N := 32) rfl ?_); refine zIndexAt (i := 3) (n := 4) (t := 45) (e := 3) rfl rfl Try.underlying45 (by kernel_rfl) (by first | rfl | (go_simp; done)) (by first | rfl | (go_simp; done)) (by first | exact of_decide_eq_true (by with_reducible assumption) | exact eq_of_beq (by with_reducible assumption) | exact of_decide_eq_true (by assumption) | exact eq_of_beq (by assumption)) (by decide) ?_) | ((with_reducible refine gate_dst (N := 35) rfl ?_); refine zIndexAt (i := 3) (n := 4) (t := 45) (e := 3) rfl rfl Try.underlying45 (by kernel_rfl) (by first | rfl | (go_simp; done)) (by first | rfl | (go_simp; done)) (by first | exact of_decide_eq_true (by with_reducible assumption) | exact eq_of_beq (by with_reducible assumption) | exact of_decide_eq_true (by assumption) | exact eq_of_beq (by assumption)) (by decide) ?_))
                                          go_roundg k3
                                          case measure => have := HJ2.out; have := HK2.out; have := HK3.out; omega
                                          case rel => exact ⟨(wrap64 (x28_3 + 1)), (x140000_3), (x140001_3), (x140002_3), (wrap64 (x140003_3 + 1)), (by first | rfl | (simp; done) | (simp [*]; done)), H', ⟨by have := HJ2.out; have := HK2.out; have := HK3.out; omega⟩, ⟨by (with_reducible repeat (first | refine blk_drewN ?_ _ | refine blk_drew ?_ | refine blk_alloc ?_ _)); refine blk_far ?_ NB138_139.out _; (with_reducible repeat (first | refine blk_drewN ?_ _ | refine blk_drew ?_ | refine blk_alloc ?_ _)); exact BK138.out⟩, ⟨by (with_reducible repeat (first | refine blk_drewN ?_ _ | refine blk_drew ?_ | refine blk_alloc ?_ _)); refine blk_put (cs := #[.int .i64 x140000_3, .int .i64 x140001_3, .int .i64 x140002_3, .int .i64 x140003_3]) ?_ 3 _ rfl; (with_reducible repeat (first | refine blk_drewN ?_ _ | refine blk_drew ?_ | refine blk_alloc ?_ _)); exact BK139.out⟩, ⟨by repeat (first | (with_reducible first | exact HB.out | apply below_alloc | apply pw_below_drewN | apply below_drew1 | refine below_set ?_ GE138.out | refine below_set ?_ GE139.out) | exact HB.out)⟩⟩
                                        · rw [if_neg c77] at H
                                          exact absurd H (by simp)
                                · rw [if_neg c67] at H
                                  exact absurd H (by simp)
                              · rw [if_neg c66] at H
                                exact absurd H (by simp)
                            · rw [if_neg c65] at H
                              have c65b0 : decide (x28_3 < t136) = false := decide_eq_false c65
                              clear c65
                              have H' := Aside0.mk H
                              clear H
                              go_wp2
                              go_roundg k3
                              case measure => have := HJ2.out; have := HK2.out; have := HK3.out; omega
                              case rel => exact ⟨(wrap64 (x24_2 + 1)), (x140000_3), (x140001_3), (x140002_3), (x140003_3), (by first | rfl | (simp; done) | (simp [*]; done)), H', ⟨by have := HJ2.out; have := HK2.out; have := HK3.out; omega⟩, ⟨by (with_reducible repeat (first | refine blk_drewN ?_ _ | refine blk_drew ?_ | refine blk_alloc ?_ _)); exact BK138.out⟩, ⟨by (with_reducible repeat (first | refine blk_drewN ?_ _ | refine blk_drew ?_ | refine blk_alloc ?_ _)); exact BK139.out⟩, ⟨by repeat (first | (with_reducible first | exact HB.out | apply below_alloc | apply pw_below_drewN | apply below_drew1 | refine below_set ?_ GE138.out | refine below_set ?_ GE139.out) | exact HB.out)⟩⟩
                      · rw [if_neg c64] at H
                        exact absurd H (by simp)
              · rw [if_neg c15] at H
                exact absurd H (by simp)
            · rw [if_neg c14] at H
              have c14b0 : decide (x24_2 < 4) = false := decide_eq_false c14
              clear c14
              simp only [Option.some.injEq, Prod.mk.injEq] at H
              obtain ⟨rfl, rfl⟩ := H
              go_wp2_with (first | ((with_reducible refine gate_dst (N := 38) rfl ?_); refine zSliceArr (n := 4) (t := 45) (e := 3) rfl rfl Try.underlying45 (by kernel_rfl) (by first | rfl | (go_simp; done)) ?_))
              go_ret2
              exact ⟨_, by first | rfl | (simp [errW_none, errW_some] <;> rfl) | (simp [*, errW_none, errW_some] <;> rfl), zR_box [x140000_2, x140001_2, x140002_2, x140003_2] GE139.out (by (with_reducible repeat (first | refine blk_drewN ?_ _ | refine blk_drew ?_ | refine blk_alloc ?_ _)); exact BK139.out), by repeat (first | (with_reducible first | exact HB.out | apply below_alloc | apply pw_below_drewN | apply below_drew1 | refine below_set ?_ GE138.out | refine below_set ?_ GE139.out) | exact HB.out)⟩

end Go.Proofs.Ytfjpejdlgmlmhaa.QFnExactColumnsOf
