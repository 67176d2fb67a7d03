/- Written by a program of this repo (xprint: a turned copy of the kit's print, with our own templates in it); Lean checks all of it. -/
import Derived.Test.YtjjkglfpcdedlaaQFnForestsToldx0
import Derived.Test.YtjjkglfpcdedlaaQFnForestsToldx3
import Derived.Test.YtjjkglfpcdedlaaQFnForestsToldx4
import Derived.Test.YtjjkglfpcdedlaaQFnForestsToldx5
namespace Go.Proofs.Ytjjkglfpcdedlaa.QFnForestsTold
open Go.RowKit Go.Proofs.YtjjkglfpcdedlaaZ Go.Proofs.YtjjkglfpcdedlaaZg Go.Proofs.YtjjkglfpcdedlaaW.PrintWords Go.Proofs.YtjjkglfpcdedlaaW.PrintLast Go.Proofs.YtjjkglfpcdedlaaW.PrintMore
attribute [local go_sem] max2_int min2_int max_two min_two max_three min_three max_four min_four   -- for this text's walks alone
set_option linter.unusedVariables false
set_option linter.unusedSimpArgs false

/-! ### spec_cyDepths: function 32 -/
def spec_cyDepths.l0 : Nat → List Int → List Int → Int → Int → Option (List Int)
 | 0, _, _, _, _ => none
 | k + 1, x3, x10, x11, x12 => if x12 < x11 then (if 0 ≤ x12 then (if x12 < (x10.length : Int) then (if (rd x10 x12) ≥ 0 then (if 0 ≤ (rd x10 x12) then (if (rd x10 x12) < (x3.length : Int) then (if x12 < (x3.length : Int) then (spec_cyDepths.l0 k (x3.set (x12 : Int).toNat (wrap64 ((rd x3 (rd x10 x12)) + 1))) x10 x11 (wrap64 (x12 + 1))) else (none)) else (none)) else (none)) else (spec_cyDepths.l0 k x3 x10 x11 (wrap64 (x12 + 1)))) else (none)) else (none)) else (some x3)
def spec_cyDepths.f (k : Nat) (l0 : List Int) : Option (List Int) := if 0 ≤ (l0.length : Int) then (if ((l0.length : Int) : Int).toNat ≤ 35184372088832 then ((spec_cyParents.f k l0).bind fun t334 => (spec_cyDepths.l0 k (List.replicate ((l0.length : Int) : Int).toNat 0) t334 (t334.length : Int) 0)) else (none)) else (none)
theorem spec_cyDepths.mono_l : ∀ k, (∀ y0 y1 y2 y3, LeO (spec_cyDepths.l0 k y0 y1 y2 y3) (spec_cyDepths.l0 (k + 1) y0 y1 y2 y3))
 | 0 => fun _ _ _ _ r h => by simp [spec_cyDepths.l0] at h
 | k + 1 => by
  have ih0 := spec_cyDepths.mono_l k
  ·intro y0 y1 y2 y3
   unfold spec_cyDepths.l0
   repeat' first
   | (with_reducible exact ih0 _ _ _ _)
   | (with_reducible exact spec_cyParents.mono _ _)
   | (with_reducible exact LeO.refl _)
   | (with_reducible exact LeO.none _)
   | (with_reducible refine LeO.ite ?_ ?_)
   | (with_reducible refine LeO.bind ?_ (fun _ => ?_))
   | exact ih0 _ _ _ _
   | exact spec_cyParents.mono _ _
   | exact LeO.none _
   | refine LeO.ite ?_ ?_
   | refine LeO.bind ?_ (fun _ => ?_)
theorem spec_cyDepths.mono : ∀ a0 k, LeO (spec_cyDepths.f k a0) (spec_cyDepths.f (k + 1) a0) := by
 intro a0 k
 have ih0 := spec_cyDepths.mono_l k
 unfold spec_cyDepths.f
 repeat' first
   | (with_reducible exact ih0 _ _ _ _)
   | (with_reducible exact spec_cyParents.mono _ _)
   | (with_reducible exact LeO.refl _)
   | (with_reducible exact LeO.none _)
   | (with_reducible refine LeO.ite ?_ ?_)
   | (with_reducible refine LeO.bind ?_ (fun _ => ?_))
   | exact ih0 _ _ _ _
   | exact spec_cyParents.mono _ _
   | exact LeO.none _
   | refine LeO.ite ?_ ?_
   | refine LeO.bind ?_ (fun _ => ?_)
set_option maxHeartbeats 8000000 in
set_option maxRecDepth 100000 in
theorem spec_cyDepths.calls (k : Nat) (A0 : Option Addr) (c0 : Nat) (l0 : List Int) (r : List Int) (w : World) (hr0 : Kd.C (Kd.int .i64) w A0 l0.length l0) (hc0 : l0.length ≤ c0) (h : spec_cyDepths.f k l0 = some r) :
  Calls Try.prog 32 #[.slice A0 l0.length c0] w fun e w' => ∃ v0_ : Value, e = .returned (v0_) ∧ Kd.R (Kd.int .i64) 3 w' w.heap.size (fun _ => True) v0_ r ∧ Below w.heap.size w w' := by
 have HR0 := Aside0.mk hr0
 have HC0 := Aside0.mk hc0
 clear hr0 hc0
 have HB := Aside0.mk (Below.refl w.heap.size w)
 have H : (if 0 ≤ (l0.length : Int) then (if ((l0.length : Int) : Int).toNat ≤ 35184372088832 then ((spec_cyParents.f k l0).bind fun t334 => (spec_cyDepths.l0 k (List.replicate ((l0.length : Int) : Int).toNat 0) t334 (t334.length : Int) 0)) else (none)) else (none)) = some r := h
 clear h
 by_cases c2 : 0 ≤ (l0.length : Int)
 ·rw [if_pos c2] at H
  have c2b0 := eq_true c2
  have c2b1 : decide (0 ≤ (l0.length : Int)) = true := decide_eq_true c2
  clear c2
  by_cases c3 : ((l0.length : Int) : Int).toNat ≤ 35184372088832
  ·rw [if_pos c3] at H
   have c3b0 := eq_true c3
   have c3b1 : decide (((l0.length : Int) : Int).toNat ≤ 35184372088832) = true := decide_eq_true c3
   clear c3
   obtain ⟨y331, hy331⟩ : ∃ y_ : List Int, y_ = (List.replicate ((l0.length : Int) : Int).toNat 0) := ⟨_, rfl⟩
   replace H : ((spec_cyParents.f k l0).bind fun t334 => (spec_cyDepths.l0 k y331 t334 (t334.length : Int) 0)) = some r := by first | (rw [hy331]; with_reducible exact H) | (have H2_ := (Option.bind_some _ _).symm.trans H; rw [hy331]; with_reducible exact H2_) | (have H2_ := (Option.bind_some _ _).symm.trans H; with_reducible exact H2_) | with_reducible exact H | (rw [hy331]; exact H) | exact H
   have Ny331 := Aside0.mk hy331
   clear hy331
   replace H := Option.bind_eq_some_iff.mp H
   obtain ⟨t334, A40, H⟩ := H
   replace H : (spec_cyDepths.l0 k y331 t334 (t334.length : Int) 0) = some r := H
   have A4 := Aside0.mk A40
   clear A40
   have H' := Aside0.mk H
   clear H
   go_enter Try.func32, Try.ntmps32
   go_wp2_with (first | ((with_reducible refine gate_dst (N := 8) rfl ?_); refine Kd.R_make (Kd.int .i64) _ 3 rfl (N := 8) rfl 24 _ _ rfl (l0.length : Int) rfl rfl Try.underlying24 (.int .i64 0) 8 info3 rfl (by decide) (by omega) 0 (ok := fun _ => True) (okp := fun _ => True) rfl (fun _ hk => hk) trivial (of_decide_eq_true (by first | (with_reducible assumption) | assumption)) (Nat.le_trans (Nat.mul_le_mul_right _ (of_decide_eq_true (by first | (with_reducible assumption) | assumption) : (l0.length : Int).toNat ≤ 35184372088832)) (by omega)) (Below.refl _ _) (Nat.le_refl _) ?_; intro v332 w5 ho6 hb hg_ hnew_; clear hg_ hnew_; (first | rw [← Ny331.out] at ho6 | (simp only [Int.reduceToNat] at ho6; rw [← Ny331.out] at ho6)); have n0_ := Aside0.mk (Kd.R_lower ho6 (below_size (by repeat (first | (with_reducible first | exact HB.out | apply qD | apply qE | apply qF) | exact HB.out)))); have n1_ := Aside0.mk (below_step (by repeat (first | (with_reducible first | exact HB.out | apply qD | apply qE | apply qF) | exact HB.out)) hb); clear HB; have HO333 := n0_; have HB := n1_; clear n0_ n1_; clear hb ho6) | ((with_reducible refine gate_callee (f := 31) rfl ?_); refine goesL_ (some 10) rfl rfl Try.func31 (by kernel_rfl) rfl #[.slice A0 l0.length c0] rfl (by (try simp only [List.map_toArray, List.map_cons, List.map_nil]); first | done | rfl | (simp only [List.length_drop, List.length_take]; rfl)) ?_; (with_reducible refine (spec_cyParents.calls k _ _ l0 t334 _ ?side1 ?side2 A4.out).mono ?_); (case side1 => repeat (first | exact (Kd.C_below HR0.out HB.out) | (with_reducible refine qG ?_ _) | (with_reducible refine qH ?_ _) | (with_reducible refine qI ?_))); (case side2 => exact HC0.out); rintro e w7 ⟨v335, rfl, ho0, hb⟩; refine ⟨_, rfl, ?_⟩; have n0_ := Aside0.mk (Kd.R_elder' (by (with_reducible repeat (first | apply qA | apply qB | apply qC)); exact HO333.out) (Kd.R_base ho0) hb); have n1_ := Aside0.mk (Kd.R_lower (Kd.R_new' ho0 (Kd.R_lt (by (with_reducible repeat (first | apply qA | apply qB | apply qC)); exact HO333.out))) (below_size (by repeat (first | (with_reducible first | exact HB.out | apply qD | apply qE | apply qF) | exact HB.out)))); have n2_ := Aside0.mk (below_step (by repeat (first | (with_reducible first | exact HB.out | apply qD | apply qE | apply qF) | exact HB.out)) hb); clear HO333; clear HB; have HO333 := n0_; have HO336 := n1_; have HB := n2_; clear n0_ n1_ n2_; (try clear hb); (try clear hb2); (try clear hk); (try clear hi); (try clear ho0); obtain ⟨Ao8, co8, eo8⟩ := Kd.R_slice HO336.out; subst eo8))
   go_loopg [12] k (fun kq v12 w' => ∃ (x3_1 : List Int) (x12_1 : Int), v12 = .int .i64 x12_1 ∧ Aside0 (spec_cyDepths.l0 kq x3_1 t334 (t334.length : Int) x12_1 = some r) ∧ Aside0 (kq ≤ k) ∧ Aside0 (Kd.R (Kd.int .i64) 3 w' w.heap.size (fun k_ => some k_ ≠ ((.slice Ao8 t334.length co8) : Value).ownBlock) v332 x3_1) ∧ Aside0 (Kd.R (Kd.int .i64) 3 w' w.heap.size (fun k_ => some k_ ≠ (v332 : Value).ownBlock) (.slice Ao8 t334.length co8) t334) ∧ Aside0 (Below w.heap.size w w'))
   case atStart => exact ⟨(y331), (0), (by first | rfl | (simp; done) | (simp [*]; done)), H', ⟨Nat.le_refl _⟩, ⟨by (with_reducible repeat (first | apply qA | apply qB | apply qC)); exact Kd.R_mono HO333.out (fun _ hk => hk.2)⟩, ⟨by (with_reducible repeat (first | apply qA | apply qB | apply qC)); exact Kd.R_mono HO336.out (fun _ hk => hk.2)⟩, ⟨by repeat (first | (with_reducible first | exact HB.out | apply qD | apply qE | apply qF) | exact HB.out)⟩⟩
   case round =>
    clear H'
    try clear c2
    try clear c2b0
    try clear c2b1
    try clear p2
    try clear c3
    try clear c3b0
    try clear c3b1
    obtain ⟨x3_1, x12_1, rfl, HA, HK1, HO_3, HO_10, HB⟩ := hrel
    cases gk with
    | zero => exact absurd HA.out (by simp [spec_cyDepths.l0])
    | succ k1 =>
     have H := HA.out
     clear HA
     simp only [spec_cyDepths.l0] at H
     by_cases c9 : x12_1 < (t334.length : Int)
     ·rw [if_pos c9] at H
      have c9b0 : decide (x12_1 < (t334.length : Int)) = true := decide_eq_true c9
      clear c9
      by_cases c10 : 0 ≤ x12_1
      ·rw [if_pos c10] at H
       have c10b0 : decide (0 ≤ x12_1) = true := decide_eq_true c10
       clear c10
       by_cases c11 : x12_1 < (t334.length : Int)
       ·rw [if_pos c11] at H
        have c11b0 : decide (x12_1 < (t334.length : Int)) = true := decide_eq_true c11
        clear c11
        by_cases c12 : (rd t334 x12_1) ≥ 0
        ·rw [if_pos c12] at H
         have c12b0 : decide (0 ≤ (rd t334 x12_1)) = true := decide_eq_true c12
         clear c12
         by_cases c13 : 0 ≤ (rd t334 x12_1)
         ·rw [if_pos c13] at H
          have c13b0 : decide (0 ≤ (rd t334 x12_1)) = true := decide_eq_true c13
          clear c13
          by_cases c14 : (rd t334 x12_1) < (x3_1.length : Int)
          ·rw [if_pos c14] at H
           have c14b0 : decide ((rd t334 x12_1) < (x3_1.length : Int)) = true := decide_eq_true c14
           clear c14
           by_cases c15 : x12_1 < (x3_1.length : Int)
           ·rw [if_pos c15] at H
            have c15b0 : decide (x12_1 < (x3_1.length : Int)) = true := decide_eq_true c15
            clear c15
            obtain ⟨y339, hy339⟩ : ∃ y_ : List Int, y_ = (x3_1.set (x12_1 : Int).toNat (wrap64 ((rd x3_1 (rd t334 x12_1)) + 1))) := ⟨_, rfl⟩
            replace H : (spec_cyDepths.l0 k1 y339 t334 (t334.length : Int) (wrap64 (x12_1 + 1))) = some r := by first | (rw [hy339]; with_reducible exact H) | (have H2_ := (Option.bind_some _ _).symm.trans H; rw [hy339]; with_reducible exact H2_) | (have H2_ := (Option.bind_some _ _).symm.trans H; with_reducible exact H2_) | with_reducible exact H | (rw [hy339]; exact H) | exact H
            have Ny339 := Aside0.mk hy339
            clear hy339
            have H' := Aside0.mk H
            clear H
            have p337 : 0 ≤ (x12_1 : Int) := of_decide_eq_true (by first | (with_reducible assumption) | assumption)
            have q337 : x12_1 < (t334.length : Int) := of_decide_eq_true (by first | (with_reducible assumption) | assumption)
            obtain ⟨ad337, e337, hx337_0⟩ := Kd.at_int (Kd.R_reads' HO_10.out).2.2 x12_1 p337 q337
            cases e337
            replace p337 := eq_true p337
            replace q337 := eq_true q337
            obtain ⟨Ao17, co17, eo17⟩ := Kd.R_slice HO_3.out
            subst eo17
            have p338 : 0 ≤ ((rd t334 x12_1) : Int) := of_decide_eq_true (by first | (with_reducible assumption) | assumption)
            have q338 : (rd t334 x12_1) < (x3_1.length : Int) := of_decide_eq_true (by first | (with_reducible assumption) | assumption)
            obtain ⟨ad338, e338, hx338_0⟩ := Kd.at_int (Kd.R_reads' HO_3.out).2.2 (rd t334 x12_1) p338 q338
            cases e338
            replace p338 := eq_true p338
            replace q338 := eq_true q338
            have p16 : 0 ≤ (x12_1 : Int) := of_decide_eq_true (by first | (with_reducible assumption) | assumption)
            have q16 : (x12_1 : Int) < ((x3_1.length : Int) : Int) := of_decide_eq_true (by first | (with_reducible assumption) | assumption)
            obtain ⟨go16, co16, eo16, gb16, gl16, cl16, HG16⟩ := Kd.R_form HO_3.out (by omega)
            (first | cases eo16 | (injection eo16 with ea_ en_ ec_; (first | subst ea_ | (injection ea_ with ea_; subst ea_)); subst ec_; clear en_))
            have GB16 := Aside0.mk gb16
            have GG16 := Aside0.mk HG16
            clear gb16 gl16 HG16
            (first | simp only [add_plain] at hx338_0 | skip)
            obtain ⟨hx16_0, hf16_0⟩ := Kd.R_celln 0 HO_3.out (x12_1 : Int) p16 q16
            replace p16 := eq_true p16
            replace q16 := eq_true q16
            have HP18 := Kd.R_putg HO_3.out (x12_1 : Int) (wrap64 ((rd x3_1 (rd t334 x12_1)) + 1))
            go_wp2_with (first | ((with_reducible refine gate_store (t := 3) (p := 26) rfl ?_); refine store_event (t := 3) (p := 26) (v := ?vo_w19) (w1 := (wr.setCell ⟨go16, (x12_1 : Int).toNat, none⟩ (.int .i64 (wrap64 ((rd x3_1 (rd t334 x12_1)) + 1))))) ?hg ?ho ?hn ?hr ?_; (case ho => rfl); (case hg => rfl); (case hn => rfl); (case hr => first | (go_simp; done) | (go_simp; rfl)); intro w19 hw; have hg : wr.grownBy w19 (some go16) := (by rw [hw]; exact HP18.2); have hp_ : Kd.R (Kd.int .i64) 3 w19 w.heap.size (fun k_ => some k_ ≠ (.slice (some ad337) t334.length co8 : Value).ownBlock) (.slice (some ⟨go16, 0, none⟩) x3_1.length co17) y339 := (by rw [hw, Ny339.out]; exact HP18.1); clear HP18; have n0_ := Aside0.mk (hp_); have n1_ := Aside0.mk (Kd.R_after (v := (.slice (some ⟨go16, 0, none⟩) x3_1.length co17)) (v1 := (.slice (some ⟨go16, 0, none⟩) x3_1.length co17)) (ok := (fun _ => True)) (by (with_reducible repeat (first | apply qA | apply qB | apply qC)); exact Kd.R_mono HO_10.out (fun _ hk => ⟨trivial, hk⟩)) hg (.inl rfl)); have n2_ := Aside0.mk ((by rw [hw]; exact below_set (HB.out) GB16.out : Below w.heap.size w w19)); clear HO_3; clear HO_10; clear HB; have HO_3 := n0_; have HO_10 := n1_; have HB := n2_; clear n0_ n1_ n2_; clear hg hw hp_))
            go_roundg k1
            case measure => have := HK1.out; omega
            case rel => exact ⟨(y339), (wrap64 (x12_1 + 1)), (by first | rfl | (simp; done) | (simp [*]; done)), H', ⟨by have := HK1.out; omega⟩, ⟨by (with_reducible repeat (first | apply qA | apply qB | apply qC)); exact HO_3.out⟩, ⟨by (with_reducible repeat (first | apply qA | apply qB | apply qC)); exact Kd.R_mono HO_10.out (fun _ hk => hk.2)⟩, ⟨by repeat (first | (with_reducible first | exact HB.out | apply qD | apply qE | apply qF) | exact HB.out)⟩⟩
           ·rw [if_neg c15] at H
            exact absurd H (by simp)
          ·rw [if_neg c14] at H
           exact absurd H (by simp)
         ·rw [if_neg c13] at H
          exact absurd H (by simp)
        ·rw [if_neg c12] at H
         have c12b0 : decide (0 ≤ (rd t334 x12_1)) = false := decide_eq_false c12
         clear c12
         have H' := Aside0.mk H
         clear H
         have p337 : 0 ≤ (x12_1 : Int) := of_decide_eq_true (by first | (with_reducible assumption) | assumption)
         have q337 : x12_1 < (t334.length : Int) := of_decide_eq_true (by first | (with_reducible assumption) | assumption)
         obtain ⟨ad337, e337, hx337_0⟩ := Kd.at_int (Kd.R_reads' HO_10.out).2.2 x12_1 p337 q337
         cases e337
         replace p337 := eq_true p337
         replace q337 := eq_true q337
         go_wp2
         go_roundg k1
         case measure => have := HK1.out; omega
         case rel => exact ⟨(x3_1), (wrap64 (x12_1 + 1)), (by first | rfl | (simp; done) | (simp [*]; done)), H', ⟨by have := HK1.out; omega⟩, ⟨by (with_reducible repeat (first | apply qA | apply qB | apply qC)); exact HO_3.out⟩, ⟨by (with_reducible repeat (first | apply qA | apply qB | apply qC)); exact HO_10.out⟩, ⟨by repeat (first | (with_reducible first | exact HB.out | apply qD | apply qE | apply qF) | exact HB.out)⟩⟩
       ·rw [if_neg c11] at H
        exact absurd H (by simp)
      ·rw [if_neg c10] at H
       exact absurd H (by simp)
     ·rw [if_neg c9] at H
      have c9b0 : decide (x12_1 < (t334.length : Int)) = false := decide_eq_false c9
      clear c9
      obtain rfl := Option.some.inj H
      go_wp2
      go_ret
      exact ⟨_, by first | rfl | (simp [errW_none, errW_some] <;> rfl) | (simp [*, errW_none, errW_some] <;> rfl), by (with_reducible repeat (first | apply qA | apply qB | apply qC)); exact Kd.R_mono HO_3.out (fun _ hk => trivial), by repeat (first | (with_reducible first | exact HB.out | apply qD | apply qE | apply qF) | exact HB.out)⟩
  ·rw [if_neg c3] at H
   exact absurd H (by simp)
 ·rw [if_neg c2] at H
  exact absurd H (by simp)

/-! ### spec_DepthsOf: function 11 -/
def spec_DepthsOf.f (k : Nat) (l0 : List Int) : Option (List Int × Bool) := (spec_cyIs.f k l0).bind fun t340 => (if t340 = true then ((spec_cyDepths.f k l0).bind fun t341 => (some (t341, true))) else (some (([] : List Int), false)))
theorem spec_DepthsOf.mono : ∀ a0 k, LeO (spec_DepthsOf.f k a0) (spec_DepthsOf.f (k + 1) a0) := by
 intro a0 k
 unfold spec_DepthsOf.f
 repeat' first
   | (with_reducible exact spec_cyDepths.mono _ _)
   | (with_reducible exact spec_cyIs.mono _ _)
   | (with_reducible exact LeO.refl _)
   | (with_reducible exact LeO.none _)
   | (with_reducible refine LeO.ite ?_ ?_)
   | (with_reducible refine LeO.bind ?_ (fun _ => ?_))
   | exact spec_cyDepths.mono _ _
   | exact spec_cyIs.mono _ _
   | exact LeO.none _
   | refine LeO.ite ?_ ?_
   | refine LeO.bind ?_ (fun _ => ?_)
set_option maxHeartbeats 8000000 in
set_option maxRecDepth 100000 in
theorem spec_DepthsOf.calls (k : Nat) (A0 : Option Addr) (c0 : Nat) (l0 : List Int) (r1 : List Int) (r2 : Bool) (w : World) (hr0 : Kd.C (Kd.int .i64) w A0 l0.length l0) (hc0 : l0.length ≤ c0) (h : spec_DepthsOf.f k l0 = some (r1, r2)) :
  Calls Try.prog 11 #[.slice A0 l0.length c0] w fun e w' => ∃ v0_ : Value, e = .returned (.tuple #[v0_, .bool r2]) ∧ Kd.R (Kd.int .i64) 3 w' w.heap.size (fun _ => True) v0_ r1 ∧ Below w.heap.size w w' := by
 have HR0 := Aside0.mk hr0
 have HC0 := Aside0.mk hc0
 clear hr0 hc0
 have HB := Aside0.mk (Below.refl w.heap.size w)
 have H : ((spec_cyIs.f k l0).bind fun t340 => (if t340 = true then ((spec_cyDepths.f k l0).bind fun t341 => (some (t341, true))) else (some (([] : List Int), false)))) = some (r1, r2) := h
 clear h
 replace H := Option.bind_eq_some_iff.mp H
 obtain ⟨t340, A20, H⟩ := H
 replace H : (if t340 = true then ((spec_cyDepths.f k l0).bind fun t341 => (some (t341, true))) else (some (([] : List Int), false))) = some (r1, r2) := H
 have A2 := Aside0.mk A20
 clear A20
 by_cases c3 : t340 = true
 ·subst c3
  have H1 : ((spec_cyDepths.f k l0).bind fun t341 => (some (t341, true))) = some (r1, r2) := by rw [if_pos rfl] at H; exact H
  clear H
  have H := H1
  clear H1
  replace H := Option.bind_eq_some_iff.mp H
  obtain ⟨t341, A40, H⟩ := H
  replace H : (some (t341, true)) = some (r1, r2) := H
  have A4 := Aside0.mk A40
  clear A40
  simp only [Option.some.injEq, Prod.mk.injEq] at H
  obtain ⟨rfl, rfl⟩ := H
  go_enter Try.func11, Try.ntmps11
  go_wp2_with (first | ((with_reducible refine gate_callee (f := 28) rfl ?_); refine goesL_ (some 5) rfl rfl Try.func28 (by kernel_rfl) rfl #[.slice A0 l0.length c0] rfl (by (try simp only [List.map_toArray, List.map_cons, List.map_nil]); first | done | rfl | (simp only [List.length_drop, List.length_take]; rfl)) ?_; (with_reducible refine (spec_cyIs.calls k _ _ l0 true _ ?side1 ?side2 A2.out).mono ?_); (case side1 => repeat (first | exact HR0.out | (with_reducible refine qG ?_ _) | (with_reducible refine qH ?_ _) | (with_reducible refine qI ?_))); (case side2 => exact HC0.out); rintro e w' ⟨rfl, ⟨nd, rfl⟩⟩; refine ⟨_, rfl, ?_⟩) | ((with_reducible refine gate_callee (f := 32) rfl ?_); refine goesL_ (some 8) rfl rfl Try.func32 (by kernel_rfl) rfl #[.slice A0 l0.length c0] rfl (by (try simp only [List.map_toArray, List.map_cons, List.map_nil]); first | done | rfl | (simp only [List.length_drop, List.length_take]; rfl)) ?_; (with_reducible refine (spec_cyDepths.calls k _ _ l0 t341 _ ?side1 ?side2 A4.out).mono ?_); (case side1 => repeat (first | exact HR0.out | (with_reducible refine qG ?_ _) | (with_reducible refine qH ?_ _) | (with_reducible refine qI ?_))); (case side2 => exact HC0.out); rintro e w5 ⟨v342, rfl, ho0, hb⟩; refine ⟨_, rfl, ?_⟩; have n0_ := Aside0.mk (Kd.R_lower ho0 (below_size (by repeat (first | (with_reducible first | exact HB.out | apply qD | apply qE | apply qF) | exact HB.out)))); have n1_ := Aside0.mk (below_step (by repeat (first | (with_reducible first | exact HB.out | apply qD | apply qE | apply qF) | exact HB.out)) hb); clear HB; have HO343 := n0_; have HB := n1_; clear n0_ n1_; (try clear hb); (try clear hb2); (try clear hk); (try clear hi); (try clear ho0)))
  go_ret2
  exact ⟨_, by first | rfl | (simp [errW_none, errW_some] <;> rfl) | (simp [*, errW_none, errW_some] <;> rfl), by (with_reducible repeat (first | apply qA | apply qB | apply qC)); exact HO343.out, by repeat (first | (with_reducible first | exact HB.out | apply qD | apply qE | apply qF) | exact HB.out)⟩
 ·replace c3 := Bool.eq_false_iff.mpr c3
  subst c3
  have H1 : (some (([] : List Int), false)) = some (r1, r2) := by rw [if_neg (show ¬ (false = true) by decide)] at H; exact H
  clear H
  have H := H1
  clear H1
  simp only [Option.some.injEq, Prod.mk.injEq] at H
  obtain ⟨rfl, rfl⟩ := H
  go_enter Try.func11, Try.ntmps11
  go_wp2_with (first | ((with_reducible refine gate_callee (f := 28) rfl ?_); refine goesL_ (some 5) rfl rfl Try.func28 (by kernel_rfl) rfl #[.slice A0 l0.length c0] rfl (by (try simp only [List.map_toArray, List.map_cons, List.map_nil]); first | done | rfl | (simp only [List.length_drop, List.length_take]; rfl)) ?_; (with_reducible refine (spec_cyIs.calls k _ _ l0 false _ ?side1 ?side2 A2.out).mono ?_); (case side1 => repeat (first | exact HR0.out | (with_reducible refine qG ?_ _) | (with_reducible refine qH ?_ _) | (with_reducible refine qI ?_))); (case side2 => exact HC0.out); rintro e w' ⟨rfl, ⟨nd, rfl⟩⟩; refine ⟨_, rfl, ?_⟩))
  go_ret2
  exact ⟨_, by first | rfl | (simp [errW_none, errW_some] <;> rfl) | (simp [*, errW_none, errW_some] <;> rfl), by first | exact Kd.R_nil _ _ _ _ _ | exact Kd.N_nil _ _ _ _ _ | exact Kd.V_nil _ _ _ _ _ | exact Kd.Q_nil _ _ _ _ _ | exact Kd.S_nil _ _ _ _ _, by repeat (first | (with_reducible first | exact HB.out | apply qD | apply qE | apply qF) | exact HB.out)⟩

/-! ### slices_Backward_int_int_1: function 63 -/
def down (n : Nat) : (k : Nat) → k ≤ n → List (Fin n)
 | 0, _ => []
 | k + 1, h => down n k (Nat.le_of_succ_le h) ++ [⟨n - 1 - k, by omega⟩]
theorem down_length (n : Nat) : ∀ (k : Nat) (h : k ≤ n), (down n k h).length = k
 | 0, _ => rfl
 | k + 1, h => by simp [down, down_length n k]
section
attribute [local go_sem] Oper.semAt_some
set_option maxRecDepth 100000 in
set_option maxHeartbeats 2000000 in
theorem slices_Backward_1.run (n : Nat) (hn : 1 ≤ n) (l Bs len cap : Nat) (sv : Option Addr) (val : Nat → Value) (S : Nat → Prop) (hlen : len ≤ 1000000) (hv : ∀ j, ∃ A m c, val j = .slice A m c) (J Jx : List (Fin len) → World → Prop)
  (hY : ∀ pre (x : Fin len) W, J pre W → pre.length < len → YieldAt Fence.wide (n - 1) Try.prog l #[.int .i64 (x.1 : Int), val x.1] W fun e W' =>
   (e = .returned (.bool true) ∧ J (pre ++ [x]) W' ∧ KB S W W') ∨ (e = .returned (.bool false) ∧ Jx (pre ++ [x]) W'))
  (W : World) (hBs : W.cell? ⟨Bs, 0, none⟩ = some (.slice sv len cap)) (hSB : S Bs) (hc : ∀ j, j < len → ∃ g, sv = some ⟨g, 0, none⟩ ∧ S g ∧ W.cell? ⟨g, j, none⟩ = some (val j)) (h0 : J [] W) :
  CallsIn Fence.wide n Try.prog 63 #[.func (.yield l) #[] #[], .pointer (some ⟨Bs, 0, none⟩)] W fun e W' => (∃ v, e = .returned v) ∧
   ((∃ ys, ys = down len len (Nat.le_refl _) ∧ J ys W') ∨ (∃ pre, True ∧ Jx pre W')) := by
 have hw0 : wrap64 ((len : Int) - 1) = (len : Int) - 1 := (show ∀ n : Int, (-9223372036854775808 ≤ n ∧ n ≤ 9223372036854775807) → wrap64 n = n from fun n h => by unfold wrap64; omega) _ (by omega)
 refine callsIn_of_wp Try.func63 rfl trivial ?_ rfl
 simp only [Try.ntmps63, List.size_toArray, List.length_cons, List.length_nil, Nat.reduceAdd, Nat.reduceSub, Array.replicate_succ, Array.replicate_zero, List.push_toArray, List.append_toArray, List.nil_append, List.cons_append]
 gi_wp2
 gi_loopw [3] (fun i wr => ∃ (k : Nat) (h : k ≤ len), i = .int .i64 ((len : Int) - 1 - k) ∧ J (down len k h) wr ∧ KB S W wr)
  (fun i _ => (intOf i + 1).toNat)
 case atStart => exact ⟨0, Nat.zero_le _, by simp, h0, KB.refl _ _⟩
 case round =>
  obtain ⟨k, hk, rfl, hJs, hnx⟩ := hrel
  have hBs' := (hnx.cell (p := ⟨Bs, 0, none⟩) hSB).trans hBs
  by_cases hlt : k < len
  ·obtain ⟨m, hm⟩ : ∃ m : Nat, m = len - 1 - k := ⟨_, rfl⟩
   have hm1 : (len : Int) - 1 - k = (m : Int) := by omega
   have hm2 : m < len := by omega
   obtain ⟨g, rfl, hSg, hcg⟩ := hc m hm2
   have hcx := (hnx.cell (p := ⟨g, m, none⟩) hSg).trans hcg
   obtain ⟨A, m1, c1, hvm⟩ := hv m
   obtain ⟨fn, tmps, assign, body, hy, hR⟩ := hY _ ⟨m, hm2⟩ wr hJs (by rw [down_length]; exact hlt)
   dsimp only at hy
   rw [hvm] at hcx hy
   rw [hm1]
   have hwm : wrap64 ((m : Int) - 1) = (m : Int) - 1 := (show ∀ n : Int, (-9223372036854775808 ≤ n ∧ n ≤ 9223372036854775807) → wrap64 n = n from fun n h => by unfold wrap64; omega) _ (by omega)
   have hmA := Aside0.mk hm
   have hm1A := Aside0.mk hm1
   clear hm hm1
   gi_wp2
   refine hR.mono ?_
   rintro e W3 (⟨rfl, hJ3, hk3⟩ | ⟨rfl, hJx3⟩)
   ·gi_wp2
    go_roundw
    case rel => exact ⟨k + 1, hlt, by have := hm1A.out; simp; omega, by have hm := hmA.out; simp only [down]; subst hm; exact hJ3, hnx.t hk3⟩
    case measure => simp [intOf] <;> omega
   ·gi_wp2
    refine bodyPost_ret (results_none rfl _ _ _) rfl ?_
    exact ⟨⟨_, rfl⟩, .inr ⟨_, trivial, hJx3⟩⟩
  ·obtain rfl : k = len := by omega
   rw [show (k : Int) - 1 - k = -1 by omega]
   gi_wp2
   go_end0
   exact ⟨⟨_, rfl⟩, .inl ⟨_, rfl, hJs⟩⟩
end
theorem slices_Backward_1.stops (n : Nat) (hn : 1 ≤ n) (Bs len cap : Nat) (sv : Option Addr) (val : Nat → Value) (S : Nat → Prop) (hlen : len ≤ 1000000) (hv : ∀ j, ∃ A m c, val j = .slice A m c) (w : World) (hS : ∀ k, S k → k < w.heap.size)
  (hBs : w.cell? ⟨Bs, 0, none⟩ = some (.slice sv len cap)) (hSB : S Bs) (hc : ∀ j, j < len → ∃ g, sv = some ⟨g, 0, none⟩ ∧ S g ∧ w.cell? ⟨g, j, none⟩ = some (val j)) :
  SeqStopsK Fence.wide n Try.prog 63 #[.pointer (some ⟨Bs, 0, none⟩)] (fun x : Fin len => #[.int .i64 (x.1 : Int), val x.1]) (KB S) (fun ys => ys = down len len (Nat.le_refl _)) (fun _ => True) len w := fun l J Jx W hW _ _ hY h0 =>
 slices_Backward_1.run n hn l Bs len cap sv val S hlen hv J Jx hY W ((hW.cell (p := ⟨Bs, 0, none⟩) (hS _ hSB)).trans hBs) hSB (fun j hj => by
  obtain ⟨g, e, hg, h⟩ := hc j hj
  exact ⟨g, e, hg, (hW.cell (p := ⟨g, j, none⟩) (hS _ hg)).trans h⟩) h0

/-! ### slices_Backward_int_int: function 50 -/
section
attribute [local go_sem] Oper.semAt_some
set_option maxHeartbeats 1000000 in
theorem slices_Backward.calls (a : Option Addr) (len cap : Nat) (w : World) :
  Calls Try.prog 50 #[.slice a len cap] w fun e w' => e = .returned (.func (.func 63) #[] #[.pointer (some ⟨w.heap.size, 0, none⟩)]) ∧ w' = w.alloc (.cells #[.slice a len cap] 26) := by
 refine (callsIn_wide (n := 6)).1 ?_
 refine callsIn_of_wp Try.func50 rfl trivial ?_ rfl
 simp only [Try.ntmps50, List.size_toArray, List.length_cons, List.length_nil, Nat.reduceAdd, Nat.reduceSub, Array.replicate_succ, Array.replicate_zero, List.push_toArray, List.append_toArray, List.nil_append, List.cons_append]
 gi_wp2
 go_ret
 exact ⟨rfl, rfl⟩
end

/-! ### impl_mirrored: function 33 -/
def chunks (g : List Int → Option (List Int)) : List (List Int) → Option (List (List Int))
 | [] => some []
 | t :: ts => if 1 ≤ t.length then ((g (t.drop 1)).bind fun m => if m.length < 1000 then ((chunks g ts).bind fun r => some ((rd t 0 :: m) :: r)) else none) else none
theorem chunks_mono {g g' : List Int → Option (List Int)} (h : ∀ a, LeO (g a) (g' a)) : ∀ ts, LeO (chunks g ts) (chunks g' ts)
 | [] => LeO.refl _
 | t :: ts => by
  unfold chunks
  refine LeO.ite (LeO.bind (h _) (fun m => LeO.ite (LeO.bind (chunks_mono h ts) (fun _ => LeO.refl _)) (LeO.refl _))) (LeO.refl _)
theorem chunks_all {g : List Int → Option (List Int)} : ∀ (ts cs : List (List Int)), chunks g ts = some cs → cs.length = ts.length ∧ ∀ j, j < ts.length → ∃ m, 1 ≤ (ts.getD j []).length ∧ g ((ts.getD j []).drop 1) = some m ∧ m.length < 1000 ∧ cs.getD j [] = rd (ts.getD j []) 0 :: m
 | [], cs, h => by
  obtain rfl := Option.some.inj h
  exact ⟨rfl, fun j hj => by simp at hj⟩
 | t :: ts, cs, h => by
  unfold chunks at h
  by_cases h1 : 1 ≤ t.length
  ·rw [if_pos h1] at h
   obtain ⟨m, hm, h⟩ := Option.bind_eq_some_iff.mp h
   by_cases h2 : m.length < 1000
   ·rw [if_pos h2] at h
    obtain ⟨r, hr, h⟩ := Option.bind_eq_some_iff.mp h
    obtain rfl := Option.some.inj h
    obtain ⟨h3, h4⟩ := chunks_all ts r hr
    refine ⟨by simp [h3], fun j hj => ?_⟩
    cases j with
    | zero => exact ⟨m, by simpa using h1, by simpa using hm, h2, by simp⟩
    | succ j =>
     obtain ⟨m', h5⟩ := h4 j (by simpa using hj)
     exact ⟨m', by simpa using h5⟩
   ·rw [if_neg h2] at h
    cases h
  ·rw [if_neg h1] at h
   cases h
def impl_mirrored.f : Nat → List Int → Option (List Int)
 | 0, _ => none
 | k + 1, l0 => (impl_treesIn.f k l0).bind fun ts => if ts.length < 1000 then ((chunks (impl_mirrored.f k) ts).bind fun cs => some cs.reverse.flatten) else none
theorem impl_mirrored.mono : ∀ a0 k, LeO (impl_mirrored.f k a0) (impl_mirrored.f (k + 1) a0)
 | _, 0 => fun r h => by simp [impl_mirrored.f] at h
 | a0, k + 1 => by
  rw [impl_mirrored.f]
  conv => rhs; rw [impl_mirrored.f]
  exact LeO.bind (impl_treesIn.mono _ _) (fun ts => LeO.ite (LeO.bind (chunks_mono (fun a => impl_mirrored.mono a k) ts) (fun _ => LeO.refl _)) (LeO.refl _))
/-- What has come, put end to end. -/
def endToEnd {n : Nat} (cs : List (List Int)) (pre : List (Fin n)) : List Int := (pre.map fun x => cs.getD x.1 []).flatten
theorem endToEnd_snoc {n : Nat} (cs : List (List Int)) (pre : List (Fin n)) (x : Fin n) : endToEnd cs (pre ++ [x]) = endToEnd cs pre ++ cs.getD x.1 [] := by simp [endToEnd]
theorem endToEnd_down (cs : List (List Int)) (n : Nat) (hn : cs.length = n) : ∀ (k : Nat) (h : k ≤ n), (down n k h).map (fun x => cs.getD x.1 []) = (cs.drop (n - k)).reverse
 | 0, _ => by simp [down, ← hn]
 | k + 1, h => by
  have h1 : n - (k + 1) < cs.length := by omega
  have e : cs.drop (n - (k + 1)) = cs.getD (n - 1 - k) [] :: cs.drop (n - k) := by
   rw [List.drop_eq_getElem_cons h1, show n - (k + 1) + 1 = n - k by omega]
   congr 1
   simp [List.getD, show n - 1 - k = n - (k + 1) by omega, h1]
  rw [e, List.reverse_cons, ← endToEnd_down cs n hn k (by omega)]
  simp [down]
theorem endToEnd_all (cs : List (List Int)) (n : Nat) (hn : cs.length = n) : endToEnd cs (down n n (Nat.le_refl _)) = cs.reverse.flatten := by
 unfold endToEnd
 rw [endToEnd_down cs n hn n (Nat.le_refl _)]
 simp
theorem endToEnd_length {n : Nat} (cs : List (List Int)) (h : ∀ j, j < n → (cs.getD j []).length ≤ 1000) : ∀ pre : List (Fin n), (endToEnd cs pre).length ≤ 1000 * pre.length
 | [] => by simp [endToEnd]
 | x :: pre => by
  have h1 := endToEnd_length cs h pre
  have h2 := h x.1 x.2
  have e : endToEnd cs (x :: pre) = cs.getD x.1 [] ++ endToEnd cs pre := by simp [endToEnd]
  rw [e, List.length_append, List.length_cons]
  omega
theorem rowVals {W : World} {base : Nat} {ok : Nat → Prop} {Ao : Option Addr} {co : Nat} {ts : List (List Int)} (h : Kd.S (Kd.slice 3 (Kd.int .i64)) 24 W base ok (.slice Ao ts.length co) ts) :
  ∃ val : Nat → Value, (∀ j, ∃ A m c, val j = .slice A m c) ∧ ∀ j, j < ts.length → ∃ g, Ao = some ⟨g, 0, none⟩ ∧ ok g ∧ W.cell? ⟨g, j, none⟩ = some (val j) := by
 refine ⟨fun j => match Ao with
  | some ad => (match W.cell? (ad.add j) with
   | some (.slice A m c) => .slice A m c
   | _ => .slice none 0 0)
  | none => .slice none 0 0, fun j => ?_, fun j hj => ?_⟩
 ·dsimp only
  split
  ·split
   ·exact ⟨_, _, _, rfl⟩
   ·exact ⟨_, _, _, rfl⟩
  ·exact ⟨_, _, _, rfl⟩
 ·obtain ⟨g, cap, he, _, _, _⟩ := Kd.S_form h (by omega)
  injection he with e1 _ _
  subst e1
  obtain ⟨ad, A0, c0, e, hx, _, _⟩ := at_L2 (Kd.S_reads' h).2.2 (j : Int) (by omega) (by omega)
  injection e with e
  subst e
  refine ⟨g, rfl, (Kd.S_R h).1 g rfl, ?_⟩
  have e2 : (Addr.mk g 0 none).add j = ⟨g, j, none⟩ := by rw [add_at, Nat.zero_add]
  rw [Int.toNat_natCast, e2] at hx
  simp only [e2, hx]
/-- A row is kept where a block that is no cells is turned. -/
theorem R_turned {A B : World} {row : Option Nat} {base : Nat} {ok : Nat → Prop} {v : Value} {xs : List Int} (h : Kd.R (Kd.int .i64) 3 A base ok v xs) (hg : A.grownBy B row) (hr : ∀ r, row = some r → ∃ o : Obj, A.heap[r]? = some o ∧ o.isCells = false) : Kd.R (Kd.int .i64) 3 B base ok v xs := by
 refine Kd.R_mono (Kd.R_grown (Kd.R_bound h) hg (fun k hk e => ?_)) (fun _ hk => hk.1)
 obtain ⟨_, _, _, q, _, cells, hc⟩ := hk
 obtain ⟨o, ho, hn⟩ := hr k e.symm
 rw [hc] at ho
 cases ho
 cases hn
theorem cell_lt' {w : World} {p : Addr} {v : Value} (h : w.cell? p = some v) : p.block < w.heap.size := by
 rcases Nat.lt_or_ge p.block w.heap.size with h1 | h1
 ·exact h1
 ·simp [World.cell?, Array.getElem?_eq_none h1] at h
section
attribute [local go_sem] Oper.semAt_some
set_option maxRecDepth 100000 in
set_option maxHeartbeats 8000000 in
theorem impl_mirrored.calls (k : Nat) : ∀ (A0 : Option Addr) (c0 : Nat) (l0 : List Int) (r : List Int) (w : World) (hr0 : Kd.C (Kd.int .i64) w A0 l0.length l0) (hc0 : l0.length ≤ c0) (h : impl_mirrored.f k l0 = some r),
  Calls Try.prog 33 #[.slice A0 l0.length c0] w fun e w' => ∃ v0_ : Value, e = .returned (v0_) ∧ Kd.R (Kd.int .i64) 3 w' w.heap.size (fun _ => True) v0_ r ∧ Below w.heap.size w w' := by
 induction k with
 | zero => intro A0 c0 l0 r w hr0 hc0 h; simp [impl_mirrored.f] at h
 | succ k ih =>
 intro A0 c0 l0 r w hr0 hc0 h
 simp only [impl_mirrored.f] at h
 obtain ⟨ts, hts, h⟩ := Option.bind_eq_some_iff.mp h
 by_cases hl : ts.length < 1000
 case neg => rw [if_neg hl] at h; cases h
 rw [if_pos hl] at h
 obtain ⟨cs, hcs, h⟩ := Option.bind_eq_some_iff.mp h
 obtain rfl := Option.some.inj h
 have HQ := Aside0.mk (chunks_all _ _ hcs)
 have HTS := Aside0.mk hts
 have HL := Aside0.mk hl
 clear h hcs hts hl
 have HR0 := Aside0.mk hr0
 have HC0 := Aside0.mk hc0
 clear hr0 hc0
 refine (callsIn_wide (n := 6)).1 ?_
 refine callsIn_of_wp_marks Try.func33 rfl trivial ?_ rfl
 simp only [Try.ntmps33, List.size_toArray, List.length_cons, List.length_nil, Nat.reduceAdd, Nat.reduceSub, Array.replicate_succ, Array.replicate_zero, List.push_toArray, List.append_toArray, List.nil_append, List.cons_append]
 refine wpIn_wide.2 ?_
 go_wp2_with (first | ((with_reducible refine gate_dst (N := 6) rfl ?_); refine Kd.R_lit (Kd.int .i64) _ 3 ?hg (N := 6) ?hd (xs := ([] : List Int)) (inner := []) (ok := fun _ => True) (okp := fun _ => True) ?hr ?hp (fun _ hk => hk) trivial (Below.refl _ _) (Nat.le_refl _) (by simp) ?_; (case hd => rfl); (case hg => rfl); (case hr => first | (go_simp; done) | (go_simp; rfl)); (case hp => exact (Reps.none _ _)); intro v345 w3 ho4 hb hg_ hnew_; (obtain ⟨A3, c3, e3⟩ := Kd.R_slice ho4); subst e3; have HO := Aside0.mk ho4; have HN := Aside0.mk hnew_; have HB3 := Aside0.mk hb; clear ho4 hb hg_ hnew_) | ((with_reducible refine gate_callee (f := 27) rfl ?_); refine goesL_ (some 8) rfl rfl Try.func27 (by kernel_rfl) rfl #[.slice A0 l0.length c0] rfl (by (try simp only [List.map_toArray, List.map_cons, List.map_nil]); first | done | rfl) ?_; (with_reducible refine (impl_treesIn.calls k _ _ l0 ts _ ?side1 ?side2 HTS.out).mono ?_); (case side1 => repeat (first | exact (Kd.C_below HR0.out HB3.out) | (with_reducible refine qG ?_ _))); (case side2 => exact HC0.out); rintro e w5 ⟨v348, rfl, ho0, hb⟩; refine ⟨_, rfl, ?_⟩; (obtain ⟨Ao, co, eo⟩ := Kd.S_slice ho0); subst eo; have HS := Aside0.mk ho0; have HB5 := Aside0.mk hb; clear ho0 hb) | ((with_reducible refine gate_callee (f := 50) rfl ?_); refine goesL_ (some 9) rfl rfl Try.func50 (by kernel_rfl) rfl #[.slice Ao ts.length co] rfl (by (try simp only [List.map_toArray, List.map_cons, List.map_nil]); first | done | rfl) ?_; refine (slices_Backward.calls _ _ _ _).mono ?_; rintro e w6 ⟨rfl, rfl⟩; refine ⟨_, rfl, ?_⟩))
 obtain ⟨b, hb0, hbw⟩ := HN.out
 have hb3 : b < w3.heap.size := Kd.R_lt HO.out b hb0
 obtain ⟨W2, hW2⟩ : ∃ W2, w5.alloc (.cells #[.slice Ao ts.length co] 26) = W2 := ⟨_, rfl⟩
 have h5 : w3.heap.size + 1 ≤ w5.heap.size := by have := HB5.out.size; simpa using this
 have hn2 : W2.heap.size = w5.heap.size + 1 := by rw [← hW2]; simp
 obtain ⟨S, hS⟩ : ∃ S : Nat → Prop, S = fun k => k < W2.heap.size ∧ k ≠ w3.heap.size ∧ k ≠ b := ⟨_, rfl⟩
 obtain ⟨okO, hok⟩ : ∃ okO : Nat → Prop, okO = fun k => k ≠ w3.heap.size ∧ (W2.heap.size ≤ k ∨ k = b) := ⟨_, rfl⟩
 have hSo : ∀ k, S k → ¬ okO k := by subst hS; subst hok; rintro k ⟨h1, h2, h3⟩ ⟨_, h4 | h4⟩ <;> omega
 have hB2 : Below w.heap.size w W2 := by
  rw [← hW2]
  have h1 : Below w.heap.size w (w3.alloc (.cells #[.slice A3 0 c3] 24)) := qD HB3.out _
  exact qD (h1.trans (HB5.out.mono h1.size)) _
 have hR2 : Kd.R (Kd.int .i64) 3 W2 w.heap.size okO (.slice A3 0 c3) [] := by
  rw [← hW2]
  refine qA (Kd.R_below (qA (Kd.R_mono (Kd.R_tight rfl HO.out) (fun k hk => ?_)) _) HB5.out) _
  rw [hb0] at hk
  injection hk with hk
  subst hok
  exact ⟨by omega, .inr hk⟩
 have hX2 : Boxed W2 w3.heap.size 24 (.slice A3 0 c3) := by
  rw [← hW2]
  refine Boxed.alloc ?_ _
  exact (HB5.out.block w3.heap.size (by simp)).trans (Boxed.new w3 24 _)
 have hS2 : Kd.S (Kd.slice 3 (Kd.int .i64)) 24 W2 (w3.heap.size + 1) S (.slice Ao ts.length co) ts := by
  rw [← hW2]
  have h := Kd.S_mono (Kd.S_bound HS.out) (ok' := S) (fun k hk => by
   subst hS
   have h1 := hk.2.1
   have h2 := hk.2.2.1
   simp at h1
   exact ⟨by rw [hn2]; omega, by omega, by omega⟩)
  rw [World.size_alloc] at h
  exact Kd.S_alloc h _
 have hN2 : W2.cell? ⟨w5.heap.size, 0, none⟩ = some (.slice Ao ts.length co) := by
  rw [← hW2]
  exact (Boxed.new w5 26 _).cell
 have hSN : S w5.heap.size := by subst hS; exact ⟨by omega, by omega, by omega⟩
 rw [hW2]
 clear HO HB3 HB5 HS HN hW2 hb0
 have hSlt : ∀ k, S k → k < W2.heap.size := by subst hS; exact fun k hk => hk.1
 have hBokO : ∀ k, okO k → k ≠ w3.heap.size := by subst hok; exact fun k hk => hk.1
 have hSx : ∀ k, S k → k ≠ w3.heap.size := by subst hS; exact fun k hk => hk.2.1
 have hfr : ∀ k, W2.heap.size ≤ k → okO k := by subst hok; exact fun k hk => ⟨by omega, .inl hk⟩
 have hwB : w.heap.size ≤ w3.heap.size := by omega
 have hBn : w3.heap.size < W2.heap.size := by omega
 obtain ⟨Bx, hBx⟩ : ∃ Bx, w3.heap.size = Bx := ⟨_, rfl⟩
 obtain ⟨Bs, hBs⟩ : ∃ Bs, w5.heap.size = Bs := ⟨_, rfl⟩
 rw [hBs] at hN2 hSN
 rw [hBx] at hX2 hBokO hwB hBn hSx
 obtain ⟨val, hv1, hv2⟩ := rowVals hS2
 simp only [Act.put, List.setIfInBounds_toArray, List.set_cons_zero, List.set_cons_succ, hBx, hBs]
 clear hok hS hBs hbw hb3 h5 hn2
 have hL1000 := HL.out
 refine (wpIn_wide (n := 6)).1 ?_
 refine wpIn_rangeFunc_ownG rfl (by omega) (gf := 63) (lb := #[.pointer (some ⟨Bs, 0, none⟩)]) rfl trivial (enters_of Try.func63 (by kernel_rfl) rfl)
  (slices_Backward_1.stops 5 (by omega) Bs ts.length co Ao val S (by omega) hv1 W2 hSlt hN2 hSN hv2) (fun h k => h.t k) (fun W l o o' hl _ _ _ => KB.b hSlt W l o' hl) (Below.refl _ _) (fun _ => rfl)
  (fun pre W => ∃ v, Boxed W Bx 24 v ∧ Kd.R (Kd.int .i64) 3 W w.heap.size okO v (endToEnd cs pre) ∧ KB S W2 W ∧ Below w.heap.size w W ∧ W2.heap.size ≤ W.heap.size)
  (fun _ _ _ => False) ?own (fun _ _ _ _ _ hs _ _ => hs) ⟨_, hX2, hR2, KB.refl _ _, hB2, Nat.le_refl _⟩
  (fun x => { tmps := #[.slice A0 l0.length c0, undef, .slice none 0 0, .pointer (some ⟨Bx, 0, none⟩), undef, val x.1, .slice A3 0 c3, .slice A0 l0.length c0, .slice Ao ts.length co, .func (.func 63) #[] #[.pointer (some ⟨Bs, 0, none⟩)], .int .i64 (x.1 : Int), val x.1, undef, undef, undef, undef, undef, undef, undef, undef, undef, undef, undef], defers := [] }) ?assign ?body ?done ?stop
 case own =>
  rintro pre A B row ⟨v, hbx, hR, hKB, hBw, hsz⟩ hg hr
  refine ⟨v, hbx.kept hg (fun e => by have := (hr Bx e.symm).1; omega), R_turned hR hg (fun r e => (hr r e).2), hKB.t (fun k hk => hg.block k (by have := hSlt k hk; omega) (fun e => by have := (hr k e.symm).1; have := hSlt k hk; omega)), ?_, Nat.le_trans hsz hg.size⟩
  exact hBw.trans ((Below.refl _ A).grown hg (by omega) (fun k e => by have := (hr k e).1; omega))
 case assign =>
  intro l x W K hK
  obtain ⟨Ax, mx, cx, hvx⟩ := hv1 x.1
  rw [hvx] at hK ⊢
  gi_wp2
  exact hK
 case body =>
  rintro l pre ⟨j, hj⟩ W ⟨v, hbx, hR, hKB, hBw, hsz⟩ hlen
  obtain ⟨m, hm1, hm2, hm3, hm4⟩ := HQ.out.2 j hj
  have hrd : rd_L2 ts (j : Int) = ts.getD j [] := by simp [rd_L2]
  have hSW := Kd.S_step hS2 (fun k hk _ => hKB k hk)
  obtain ⟨ad, Ar, cr, e0, hx, hcr, hC⟩ := at_L2 (Kd.S_reads' hSW).2.2 (j : Int) (by omega) (by omega)
  subst e0
  obtain ⟨ce, hce, hMe, hcc⟩ := Kd.S_get hSW [] (j : Int) (by omega) (by omega)
  obtain ⟨ve, rfl, ge⟩ := hMe
  have hv0 := hcc 0 _ rfl
  rw [Nat.add_zero, show ((Kd.slice 3 (Kd.int .i64))).sz = 1 from rfl, Nat.mul_one] at hv0
  replace hv0 := Option.some.inj (hv0.symm.trans hx)
  rw [hv0] at ge
  have hE : Kd.R (Kd.int .i64) 3 _ _ _ _ (rd_L2 ts (j : Int)) := ge
  have hvj : val j = .slice Ar (rd_L2 ts (j : Int)).length cr := by
   obtain ⟨g, e1, hg1, hg2⟩ := hv2 j hj
   injection e1 with e1
   subst e1
   have h1 := (hKB.cell (p := ⟨g, j, none⟩) hg1).trans hg2
   rw [Int.toNat_natCast, add_at, Nat.zero_add, h1] at hx
   exact Option.some.inj hx
  rw [hrd] at hx hcr hC hE hvj
  clear hrd hv0 ge hcc hce hx
  obtain ⟨row, hrow⟩ : ∃ row, row = ts.getD j [] := ⟨_, rfl⟩
  rw [← hrow] at hcr hC hE hvj hm1 hm2 hm4
  obtain ⟨out, hout⟩ : ∃ out, out = endToEnd cs pre := ⟨_, rfl⟩
  have hol : out.length ≤ 1000 * pre.length := by
   rw [hout]
   refine endToEnd_length cs (fun i hi => ?_) pre
   obtain ⟨m', _, _, h3, h4⟩ := HQ.out.2 i hi
   rw [h4, List.length_cons]
   omega
  have hend : endToEnd cs (pre ++ [⟨j, hj⟩]) = (out ++ [rd row 0]) ++ m := by rw [endToEnd_snoc, hout, hm4]; simp
  rw [← hout] at hR
  clear hm4 hrow hout
  obtain ⟨Av, cv, rfl⟩ := Kd.R_slice hR
  have hcx := hbx.cell
  obtain ⟨ad0, e352, hx0⟩ := Kd.at_int hC 0 (by omega) (by omega)
  subst e352
  rw [show ((0 : Int)).toNat = 0 from rfl, Addr.add_zero'] at hx0
  obtain ⟨i0, hi0, _, hsz0, _⟩ := info_parts info3
  obtain ⟨A1, hcut, hA1, hC1⟩ := print_drop_of (P := Try.prog) (Value.int .i64) 0 24 3 .i64 Try.underlying24 hi0 hsz0 (some ad0) cr row 1 (by omega) (by omega) hcr
  have hpre : pre.length < 1000 := by omega
  have hHEND := Aside0.mk hend
  have hOL := Aside0.mk hol
  have hM2 := Aside0.mk hm2
  have qi := eq_true (show 0 < row.length by omega)
  have q1 := eq_true (show (1 : Int) ≤ (row.length : Int) by omega)
  have q2 := eq_true (show (0 : Int) < (row.length : Int) by omega)
  have p0 := eq_true (show (0 : Int) ≤ 0 by omega)
  clear hend hol hm2 hi0 hsz0 hC
  dsimp only
  rw [hvj]
  refine wpIn_block ?_
  refine startIn_ (n := 11) (S := fun w' => w'.cell? ⟨Bx, 0, none⟩ = some (.slice Av out.length cv) ∧ w'.cell? ad0 = some (.int .i64 (rd row 0))) (ds := [5, 8, 9, 10]) #[false, false, false, false, false, false, false, false, false, false, false] (by kernel_rfl) (by kernel_rfl) (fun _ _ h => h) rfl rfl ⟨hcx, hx0⟩ (fun hHeld => ?_)
  have hbxD : Boxed W.drew Bx 24 (.slice Av out.length cv) := hbx
  have hRD := qC hR
  have hED := qC hE
  have hBD : Below w.heap.size w W.drew := qF hBw
  have hKD : ∀ k : Nat, W.drew.heap[k]? = W.heap[k]? := fun _ => rfl
  have hWD : W.heap.size ≤ W.drew.heap.size := Nat.le_refl _
  have hszD : W2.heap.size ≤ W.drew.heap.size := hsz
  clear hcx hx0
  generalize W.drew = Wd at hbxD hRD hED hBD hKD hWD hszD hHeld ⊢
  refine take_ (i := 0) (N := some 12) (v := ?_) (a' := ?_) #[true, false, false, false, false, false, false, false, false, false, false] rfl rfl (by kernel_rfl) (fun _ _ _ h => h) (Or.inl ⟨by rfl, ?_⟩) hHeld ?_ ?_
  rotate_left
  ·rintro w' ⟨s0, s1⟩
   go_simp
   with_reducible rfl
  rotate_left
  ·simp only [Act.put, List.setIfInBounds_toArray, List.set_cons_zero, List.set_cons_succ, i64_w, i32_w]
   rfl
  refine pure_ (i := 1) (N := some 13) (v := ?_) (a' := ?_) #[true, true, false, false, false, false, false, false, false, false, false] rfl rfl (by kernel_rfl) (fun _ _ _ h => h) (Or.inl ⟨by rfl, ?_⟩) ?_ ?_
  rotate_left
  ·intro w'
   go_simp
   with_reducible rfl
  rotate_left
  ·simp only [Act.put, List.setIfInBounds_toArray, List.set_cons_zero, List.set_cons_succ, i64_w, i32_w]
   rfl
  refine pure_ (i := 2) (N := some 14) (v := ?_) (a' := ?_) #[true, true, true, false, false, false, false, false, false, false, false] rfl rfl (by kernel_rfl) (fun _ _ _ h => h) (Or.inl ⟨by rfl, ?_⟩) ?_ ?_
  rotate_left
  ·intro w'
   go_simp
   with_reducible rfl
  rotate_left
  ·simp only [Act.put, List.setIfInBounds_toArray, List.set_cons_zero, List.set_cons_succ, i64_w, i32_w]
   rfl
  refine take_ (i := 3) (N := some 15) (v := ?_) (a' := ?_) #[true, true, true, true, false, false, false, false, false, false, false] rfl rfl (by kernel_rfl) (fun _ _ _ h => h) (Or.inl ⟨by rfl, ?_⟩) hHeld ?_ ?_
  rotate_left
  ·rintro w' ⟨s0, s1⟩
   go_simp
   with_reducible rfl
  rotate_left
  ·simp only [Act.put, List.setIfInBounds_toArray, List.set_cons_zero, List.set_cons_succ, i64_w, i32_w]
   rfl
  refine pure_ (i := 6) (N := some 18) (v := ?_) (a' := ?_) #[true, true, true, true, false, false, true, false, false, false, false] rfl rfl (by kernel_rfl) (fun _ _ _ h => h) (Or.inl ⟨by rfl, ?_⟩) ?_ ?_
  rotate_left
  ·intro w'
   go_simp
   with_reducible rfl
  rotate_left
  ·simp only [Act.put, List.setIfInBounds_toArray, List.set_cons_zero, List.set_cons_succ, i64_w, i32_w]
   rfl
  refine pure_ (i := 7) (N := some 19) (v := ?_) (a' := ?_) #[true, true, true, true, false, false, true, true, false, false, false] rfl rfl (by kernel_rfl) (fun _ _ _ h => h) (Or.inl ⟨by rfl, ?_⟩) ?_ ?_
  rotate_left
  ·intro w'
   go_simp
   with_reducible rfl
  rotate_left
  ·simp only [Act.put, List.setIfInBounds_toArray, List.set_cons_zero, List.set_cons_succ, i64_w, i32_w]
   rfl
  refine one_ (i := 4) (N := some 16) #[true, true, true, true, true, false, true, true, false, false, false] rfl rfl (by kernel_rfl) (by decide) (fun K hK => ?_)
  refine value_ (w1 := Wd.alloc (.cells #[.int .i64 (rd row 0)] 3)) (v := .slice (some ⟨Wd.heap.size, 0, none⟩) 1 1) (by rfl) rfl ?_ ?_
  ·go_simp
   try rfl
  refine hK.out _ _ ⟨(((Below.refl _ Wd).alloc (Nat.le_refl _) _).cell (p := ⟨Bx, 0, none⟩) hbxD.lt).trans hHeld.1, (((Below.refl _ Wd).alloc (Nat.le_refl _) _).cell (p := ad0) (cell_lt' hHeld.2)).trans hHeld.2⟩ (fun hHeld => ?_)
  clear hK K
  refine norm_ (a' := ?_) ?_ ?_
  rotate_left
  ·show Act.put _ (some 16) _ = _
   simp only [Act.put, List.setIfInBounds_toArray, List.set_cons_zero, List.set_cons_succ, i64_w, i32_w]
   rfl
  refine last_ (i := 5) (N := some 17) #[true, true, true, true, true, true, true, true, false, false, false] rfl rfl (by kernel_rfl) (by decide) (fun K hK => ?_)
  refine Kd.R_append_step (Kd.int .i64) (w0 := w) w.heap.size (by rfl) (.tmp 12) (.tmp 16) 24 3 (.int .i64 0) 8 rfl Try.underlying24 info3 rfl (by decide) (by omega) (.slice Av out.length cv) out (rd row 0) [.int .i64 (rd row 0)] okO (fun _ => False) rfl rfl rfl (fun _ hk => hk.elim) (fun k hk => hfr k (by omega)) hRD hBD hBD.size (by have := hOL.out; omega) ?_
  intro v1 w1 ho1 hb1 hg1 hat1
  refine hK.out _ _ ?_
  clear hK K
  refine norm_ (a' := ?_) ?_ ?_
  rotate_left
  ·show Act.put _ (some 17) _ = _
   simp only [Act.put, List.setIfInBounds_toArray, List.set_cons_zero, List.set_cons_succ, i64_w, i32_w]
   rfl
  have hown : ∀ k, (Value.slice Av out.length cv).ownBlock = some k → okO k := hRD.1
  have hE1 : Kd.R (Kd.int .i64) 3 w1 (w3.heap.size + 1) (fun k => S k ∧ some k ≠ (Value.slice (some ad) ts.length co).ownBlock) (.slice (some ad0) row.length cr) row :=
   Kd.R_grown hED hg1 (fun k hk e => hSo k hk.1 (hown k e.symm))
  have hC1' := Kd.C_of_reads (h1 := fun _ => rfl) (hA1 _ (Kd.reads_of_C (Kd.R_reads' hE1).2.2))
  refine last_ (i := 8) (N := some 20) #[true, true, true, true, true, true, true, true, true, false, false] rfl rfl (by kernel_rfl) (by decide) (fun K hK => ?_)
  refine goes_ Try.func33 (by kernel_rfl) rfl #[.slice A1 (row.drop (1 : Int).toNat).length (cr - (1 : Int).toNat)] (by rfl) rfl rfl (by (try simp only [List.map_toArray, List.map_cons, List.map_nil]); first | done | (rw [show (row.drop (1 : Int).toNat).length = (row.length - (1 : Int).toNat) from List.length_drop] <;> rfl) | rfl) ?_
  refine (ih _ _ (row.drop (1 : Int).toNat) m w1 hC1' hC1 hM2.out).mono ?_
  rintro e w4 ⟨v2, rfl, ho2, hb2⟩
  refine ⟨_, rfl, ?_⟩
  refine hK.out _ _ ?_
  clear hK K
  refine norm_ (a' := ?_) ?_ ?_
  rotate_left
  ·show Act.put _ (some 20) _ = _
   simp only [Act.put, List.setIfInBounds_toArray, List.set_cons_zero, List.set_cons_succ, i64_w, i32_w]
   rfl
  obtain ⟨A2, c2, rfl⟩ := Kd.R_slice ho2
  have ho1' := Kd.R_below ho1 hb2
  have hs1 : Wd.heap.size ≤ w1.heap.size := by have := hg1.size; simpa using this
  refine last_ (i := 9) (N := some 21) #[true, true, true, true, true, true, true, true, true, true, false] rfl rfl (by kernel_rfl) (by decide) (fun K hK => ?_)
  refine Kd.R_append_rows_step (Kd.int .i64) (w0 := w) w.heap.size (by rfl) (.tmp 17) (.tmp 20) 24 3 (.int .i64 0) 8 rfl Try.underlying24 info3 rfl (by decide) (by omega) v1 (out ++ [rd row 0]) m A2 m.length c2 okO (fun _ => False) rfl rfl ho1' (Kd.R_reads' ho2).2.2 (fun _ _ h => h) (fun _ h => h.elim) (fun k hk => hfr k (by have := hb2.size; omega)) (below_step hb1 hb2) (below_size (below_step hb1 hb2)) (by have := hOL.out; rw [List.length_append]; simp only [List.length_cons, List.length_nil]; omega) ?_
  intro v3 w6 ho3 hb3 hg3 hat3
  obtain ⟨Y, hY⟩ : ∃ Y, Y = (out ++ [rd row 0]) ++ m := ⟨_, rfl⟩
  rw [← hY] at ho3
  have hHY := Aside0.mk (hHEND.out.trans hY.symm)
  clear hY
  refine hK.out _ _ ?_
  clear hK K
  refine norm_ (a' := ?_) ?_ ?_
  rotate_left
  ·show Act.put _ (some 21) _ = _
   simp only [Act.put, List.setIfInBounds_toArray, List.set_cons_zero, List.set_cons_succ, i64_w, i32_w]
   rfl
  have hkeep : ∀ k : Nat, k < W.heap.size → some k ≠ (Value.slice Av out.length cv).ownBlock → w6.heap[k]? = W.heap[k]? := fun k hk hne => by
   have hk' : k < Wd.heap.size := by omega
   have h1 := hg1.block k hk' hne
   have h2 := hb2.block k (by omega)
   have h3 := hg3.block k (by have := hb2.size; omega) (fun e => by
    rcases hat1 with h | ⟨b', h, hle⟩
    ·rw [h] at e; exact hne e
    ·rw [h] at e; injection e with e; omega)
   exact h3.trans (h2.trans (h1.trans (hKD k)))
  have hbx6 : Boxed w6 Bx 24 (.slice Av out.length cv) := (hkeep Bx hbx.lt (fun e => hBokO Bx (hown Bx e.symm) rfl)).trans hbx
  obtain ⟨A6, c6, rfl⟩ := Kd.R_slice ho3
  have hc6 := hbx6.cell
  have hf6 := hbx6.frozen
  refine last_ (i := 10) (N := none) #[true, true, true, true, true, true, true, true, true, true, true] rfl rfl (by kernel_rfl) (by decide) (fun K hK => ?_)
  refine skip_ (w1 := ?_) (by rfl) rfl ?_ ?_
  rotate_left
  ·go_simp
   rfl
  refine hK.out _ _ ?_
  clear hK K
  refine done_ (by kernel_rfl) ?_
  have hown6 : ∀ k, (Value.slice A6 Y.length c6).ownBlock = some k → okO k := ho3.1
  have hw6 : ∀ k : Nat, k < W.heap.size → k ≠ Bx → some k ≠ (Value.slice Av out.length cv).ownBlock → (w6.setCell ⟨Bx, 0, none⟩ (.slice A6 Y.length c6)).heap[k]? = W.heap[k]? := fun k h1 h2 h3 => (Below.heap_setCell w6 ⟨Bx, 0, none⟩ _ k h2).trans (hkeep k h1 h3)
  have hsz6 : W.heap.size ≤ (w6.setCell ⟨Bx, 0, none⟩ (.slice A6 Y.length c6)).heap.size := by
   have h1 := hb2.size
   have h2 := hg3.size
   have h3 := (KeepsWalks.setCell w6 ⟨Bx, 0, none⟩ (.slice A6 Y.length c6)).size
   omega
  refine ⟨⟨hsz6, fun k o hk hko hno => (hw6 k (Array.getElem?_eq_some_iff.1 hko).1 (by omega) (fun e => ?_)).trans hko⟩, fun k hk => hw6 k (by have := hSlt k hk; omega) ?_ (fun e => hSo k hk (hown k e.symm)), _, hbx6.set _, ?_, hKB.t (fun k hk => hw6 k (by have := hSlt k hk; omega) ?_ (fun e => hSo k hk (hown k e.symm))), hb3.setCell (p := ⟨Bx, 0, none⟩) hwB _, by omega⟩
  ·obtain ⟨_, _, _, q, _, cells, hc⟩ := (Kd.R_bound hR).1 k e.symm
   rw [hko] at hc
   cases hc
   cases hno
  ·exact hSx k hk
  ·rw [hHY.out]
   exact Kd.R_far ho3 (fun k hk => hBokO k hk) _
  ·exact hSx k hk
 case done =>
  rintro D ys W hD rfl ⟨v, hbx, hR, hKB, hBw, hsz⟩ hK
  obtain ⟨L, hL⟩ : ∃ L, L = endToEnd cs (down ts.length ts.length (Nat.le_refl _)) := ⟨_, rfl⟩
  rw [← hL] at hR
  obtain ⟨Av, cv, rfl⟩ := Kd.R_slice hR
  have hcx := hbx.cell
  go_wp2
  refine ⟨by simp, .inl ⟨_, _, rfl, run_takeDeferred hK, ?_⟩⟩
  refine ⟨_, results_tmp rfl _ _ _, _, rfl, ?_, hBw.trans (belowK_b (w := w) (Nat.le_refl _) W D _ _ (by have := hB2.size; omega) hK rfl rfl)⟩
  rw [← endToEnd_all cs ts.length HQ.out.1, ← hL]
  exact Kd.R_mono (R_turned hR (grownBy_putObj' W D (.deferred none)) (fun r e => by cases e; exact ⟨_, hK, rfl⟩)) (fun _ _ => trivial)
 case stop =>
  rintro D c pre W _ _ h _
  exact h.elim
end

/-! ### impl_MirrorForest: function 12 -/
def impl_MirrorForest.f (k : Nat) (l0 : List Int) : Option (List Int × Bool) := (impl_areForest.f k l0).bind fun t344 => (if t344 = true then ((impl_mirrored.f k l0).bind fun t345 => (some (t345, true))) else (some (([] : List Int), false)))
theorem impl_MirrorForest.mono : ∀ a0 k, LeO (impl_MirrorForest.f k a0) (impl_MirrorForest.f (k + 1) a0) := by
 intro a0 k
 unfold impl_MirrorForest.f
 repeat' first
   | (with_reducible exact impl_areForest.mono _ _)
   | (with_reducible exact impl_mirrored.mono _ _)
   | (with_reducible exact LeO.refl _)
   | (with_reducible exact LeO.none _)
   | (with_reducible refine LeO.ite ?_ ?_)
   | (with_reducible refine LeO.bind ?_ (fun _ => ?_))
   | exact impl_areForest.mono _ _
   | exact impl_mirrored.mono _ _
   | exact LeO.none _
   | refine LeO.ite ?_ ?_
   | refine LeO.bind ?_ (fun _ => ?_)
set_option maxHeartbeats 8000000 in
set_option maxRecDepth 100000 in
theorem impl_MirrorForest.calls (k : Nat) (A0 : Option Addr) (c0 : Nat) (l0 : List Int) (r1 : List Int) (r2 : Bool) (w : World) (hr0 : Kd.C (Kd.int .i64) w A0 l0.length l0) (hc0 : l0.length ≤ c0) (h : impl_MirrorForest.f k l0 = some (r1, r2)) :
  Calls Try.prog 12 #[.slice A0 l0.length c0] w fun e w' => ∃ v0_ : Value, e = .returned (.tuple #[v0_, .bool r2]) ∧ Kd.R (Kd.int .i64) 3 w' w.heap.size (fun _ => True) v0_ r1 ∧ Below w.heap.size w w' := by
 have HR0 := Aside0.mk hr0
 have HC0 := Aside0.mk hc0
 clear hr0 hc0
 have HB := Aside0.mk (Below.refl w.heap.size w)
 have H : ((impl_areForest.f k l0).bind fun t344 => (if t344 = true then ((impl_mirrored.f k l0).bind fun t345 => (some (t345, true))) else (some (([] : List Int), false)))) = some (r1, r2) := h
 clear h
 replace H := Option.bind_eq_some_iff.mp H
 obtain ⟨t344, A20, H⟩ := H
 replace H : (if t344 = true then ((impl_mirrored.f k l0).bind fun t345 => (some (t345, true))) else (some (([] : List Int), false))) = some (r1, r2) := H
 have A2 := Aside0.mk A20
 clear A20
 by_cases c3 : t344 = true
 ·subst c3
  have H1 : ((impl_mirrored.f k l0).bind fun t345 => (some (t345, true))) = some (r1, r2) := by rw [if_pos rfl] at H; exact H
  clear H
  have H := H1
  clear H1
  replace H := Option.bind_eq_some_iff.mp H
  obtain ⟨t345, A40, H⟩ := H
  replace H : (some (t345, true)) = some (r1, r2) := H
  have A4 := Aside0.mk A40
  clear A40
  simp only [Option.some.injEq, Prod.mk.injEq] at H
  obtain ⟨rfl, rfl⟩ := H
  go_enter Try.func12, Try.ntmps12
  go_wp2_with (first | ((with_reducible refine gate_callee (f := 26) rfl ?_); refine goesL_ (some 5) rfl rfl Try.func26 (by kernel_rfl) rfl #[.slice A0 l0.length c0] rfl (by (try simp only [List.map_toArray, List.map_cons, List.map_nil]); first | done | rfl | (simp only [List.length_drop, List.length_take]; rfl)) ?_; (with_reducible refine (impl_areForest.calls k _ _ l0 true _ ?side1 ?side2 A2.out).mono ?_); (case side1 => repeat (first | exact HR0.out | (with_reducible refine qG ?_ _) | (with_reducible refine qH ?_ _) | (with_reducible refine qI ?_))); (case side2 => exact HC0.out); rintro e w' ⟨rfl, ⟨nd, rfl⟩⟩; refine ⟨_, rfl, ?_⟩) | ((with_reducible refine gate_callee (f := 33) rfl ?_); refine goesL_ (some 8) rfl rfl Try.func33 (by kernel_rfl) rfl #[.slice A0 l0.length c0] rfl (by (try simp only [List.map_toArray, List.map_cons, List.map_nil]); first | done | rfl | (simp only [List.length_drop, List.length_take]; rfl)) ?_; (with_reducible refine (impl_mirrored.calls k _ _ l0 t345 _ ?side1 ?side2 A4.out).mono ?_); (case side1 => repeat (first | exact HR0.out | (with_reducible refine qG ?_ _) | (with_reducible refine qH ?_ _) | (with_reducible refine qI ?_))); (case side2 => exact HC0.out); rintro e w5 ⟨v346, rfl, ho0, hb⟩; refine ⟨_, rfl, ?_⟩; have n0_ := Aside0.mk (Kd.R_lower ho0 (below_size (by repeat (first | (with_reducible first | exact HB.out | apply qD | apply qE | apply qF) | exact HB.out)))); have n1_ := Aside0.mk (below_step (by repeat (first | (with_reducible first | exact HB.out | apply qD | apply qE | apply qF) | exact HB.out)) hb); clear HB; have HO347 := n0_; have HB := n1_; clear n0_ n1_; (try clear hb); (try clear hb2); (try clear hk); (try clear hi); (try clear ho0)))
  go_ret2
  exact ⟨_, by first | rfl | (simp [errW_none, errW_some] <;> rfl) | (simp [*, errW_none, errW_some] <;> rfl), by (with_reducible repeat (first | apply qA | apply qB | apply qC)); exact HO347.out, by repeat (first | (with_reducible first | exact HB.out | apply qD | apply qE | apply qF) | exact HB.out)⟩
 ·replace c3 := Bool.eq_false_iff.mpr c3
  subst c3
  have H1 : (some (([] : List Int), false)) = some (r1, r2) := by rw [if_neg (show ¬ (false = true) by decide)] at H; exact H
  clear H
  have H := H1
  clear H1
  simp only [Option.some.injEq, Prod.mk.injEq] at H
  obtain ⟨rfl, rfl⟩ := H
  go_enter Try.func12, Try.ntmps12
  go_wp2_with (first | ((with_reducible refine gate_callee (f := 26) rfl ?_); refine goesL_ (some 5) rfl rfl Try.func26 (by kernel_rfl) rfl #[.slice A0 l0.length c0] rfl (by (try simp only [List.map_toArray, List.map_cons, List.map_nil]); first | done | rfl | (simp only [List.length_drop, List.length_take]; rfl)) ?_; (with_reducible refine (impl_areForest.calls k _ _ l0 false _ ?side1 ?side2 A2.out).mono ?_); (case side1 => repeat (first | exact HR0.out | (with_reducible refine qG ?_ _) | (with_reducible refine qH ?_ _) | (with_reducible refine qI ?_))); (case side2 => exact HC0.out); rintro e w' ⟨rfl, ⟨nd, rfl⟩⟩; refine ⟨_, rfl, ?_⟩))
  go_ret2
  exact ⟨_, by first | rfl | (simp [errW_none, errW_some] <;> rfl) | (simp [*, errW_none, errW_some] <;> rfl), by first | exact Kd.R_nil _ _ _ _ _ | exact Kd.N_nil _ _ _ _ _ | exact Kd.V_nil _ _ _ _ _ | exact Kd.Q_nil _ _ _ _ _ | exact Kd.S_nil _ _ _ _ _, by repeat (first | (with_reducible first | exact HB.out | apply qD | apply qE | apply qF) | exact HB.out)⟩

end Go.Proofs.Ytjjkglfpcdedlaa.QFnForestsTold
