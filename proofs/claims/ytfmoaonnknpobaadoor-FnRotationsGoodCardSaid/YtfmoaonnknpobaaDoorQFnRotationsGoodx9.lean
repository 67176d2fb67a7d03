/- Written by a program of this repo (xprint: a turned copy of the kit's print, with our own templates in it); Lean checks all of it. -/
import Derived.Test.YtfmoaonnknpobaaDoorQFnRotationsGoodx0
import Derived.Test.YtfmoaonnknpobaaDoorQFnRotationsGoodx1
import Derived.Test.YtfmoaonnknpobaaDoorQFnRotationsGoodx2
import Derived.Test.YtfmoaonnknpobaaDoorQFnRotationsGoodx3
import Derived.Test.YtfmoaonnknpobaaDoorQFnRotationsGoodx4
import Derived.Test.YtfmoaonnknpobaaDoorQFnRotationsGoodx6
import Derived.Test.YtfmoaonnknpobaaDoorQFnRotationsGoodx7
import Derived.Test.YtfmoaonnknpobaaDoorQFnRotationsGoodx8
namespace Go.Proofs.YtfmoaonnknpobaaDoor.QFnRotationsGood
open Go.RowKit Go.Proofs.YtfmoaonnknpobaaDoorZ Go.Proofs.YtfmoaonnknpobaaDoorZi Go.Proofs.YtfmoaonnknpobaaDoorW.PrintWords Go.Proofs.YtfmoaonnknpobaaDoorW.PrintLast Go.Proofs.YtfmoaonnknpobaaDoorW.PrintMore
attribute [local go_sem] max2_int min2_int max_two min_two max_three min_three max_four min_four   -- for this text's walks alone
set_option linter.unusedVariables false
set_option linter.unusedSimpArgs false

/-! ### laws_FnRotationsGood: function 3 -/
mutual
def laws_FnRotationsGood.j0 : Nat → List Int → List Int → List Int → Bool → Int → Bool → Option (Bool)
  | 0, _, _, _, _, _, _ => none
  | k + 1, x1, x5, x6, x7, x10, x98 => if x98 = true then (some false) else (if x7 = true then (if x10 < 0 then (laws_FnRotationsGood.j1 k x1 x5 x6 x10 0) else (laws_FnRotationsGood.j1 k x1 x5 x6 x10 x10)) else (laws_FnRotationsGood.j4 k x1))
def laws_FnRotationsGood.j4 : Nat → List Int → Option (Bool)
  | 0, _ => none
  | k + 1, x1 => (spec_DrawRatioRotations.f k x1).bind fun bt370 => ((impl_RatioRotations.f k bt370.1 bt370.2).bind fun bt372 => ((spec_RatioRotations.f k bt370.1 bt370.2).bind fun bt376 => ((spec_DrawRotateList.f k x1).bind fun bt380 => ((impl_RotateList.f k bt380.1 bt380.2).bind fun bt384 => ((spec_RotateList.f k bt380.1 bt380.2).bind fun bt388 => (if (bt372.2 != bt376.2) = true then (laws_FnRotationsGood.j5 k bt370.1 bt370.2 bt372.1 bt372.2 bt380.1 bt380.2 bt384.1 bt384.2 true) else ((laws_xSame.f k bt372.1 bt376.1).bind fun t392 => (if t392 = true then (if (bt384.2 != bt388.2) = true then (laws_FnRotationsGood.j5 k bt370.1 bt370.2 bt372.1 bt372.2 bt380.1 bt380.2 bt384.1 bt384.2 true) else ((laws_xSame.f k bt384.1 bt388.1).bind fun t393 => (laws_FnRotationsGood.j5 k bt370.1 bt370.2 bt372.1 bt372.2 bt380.1 bt380.2 bt384.1 bt384.2 (!t393)))) else (laws_FnRotationsGood.j5 k bt370.1 bt370.2 bt372.1 bt372.2 bt380.1 bt380.2 bt384.1 bt384.2 true)))))))))
def laws_FnRotationsGood.j5 : Nat → ByteArray → Int → List Int → Bool → List Int → Int → List Int → Bool → Bool → Option (Bool)
  | 0, _, _, _, _, _, _, _, _, _ => none
  | k + 1, x20, x21, x22, x23, x26, x27, x28, x29, x199 => if x199 = true then (some false) else (if x23 = true then ((laws_xCount.f k x20 85).bind fun t394 => ((laws_xCount.f k x20 68).bind fun t395 => (if (wrap64 (t394 - (wrap64 (x21 * t395)))) < 0 then (laws_FnRotationsGood.j6 k x20 x22 x26 x27 x28 x29 0) else (laws_FnRotationsGood.j6 k x20 x22 x26 x27 x28 x29 (wrap64 (t394 - (wrap64 (x21 * t395)))))))) else (laws_FnRotationsGood.j8 k x26 x27 x28 x29))
def laws_FnRotationsGood.j8 : Nat → List Int → Int → List Int → Bool → Option (Bool)
  | 0, _, _, _, _ => none
  | k + 1, x26, x27, x28, x29 => if x29 = true then (if (x26.length : Int) = 0 then (none) else ((impl_RotateList.f k x28 (Int.tmod (wrap64 ((x26.length : Int) - x27)) (x26.length : Int))).bind fun bt398 => (if bt398.2 = true then ((laws_xSame.f k bt398.1 x26).bind fun t402 => (some t402)) else (some false)))) else (some true)
def laws_FnRotationsGood.j6 : Nat → ByteArray → List Int → List Int → Int → List Int → Bool → Int → Option (Bool)
  | 0, _, _, _, _, _, _, _ => none
  | k + 1, x20, x22, x26, x27, x28, x29, x32 => if (x22.length : Int) = x32 then (laws_FnRotationsGood.l1 k x20 x22 x26 x27 x28 x29 x22 (x22.length : Int) 0) else (some false)
def laws_FnRotationsGood.l1 : Nat → ByteArray → List Int → List Int → Int → List Int → Bool → List Int → Int → Int → Option (Bool)
  | 0, _, _, _, _, _, _, _, _, _ => none
  | k + 1, x20, x22, x26, x27, x28, x29, x214, x215, x216 => if x216 < x215 then (if 0 ≤ x216 then (if x216 < (x214.length : Int) then (if 0 ≤ (rd x214 x216) then (if (rd x214 x216) < (x20.size : Int) then (if (bt x20 (rd x214 x216)) = 85 then (if x216 > 0 then (if 0 ≤ (wrap64 (x216 - 1)) then (if (wrap64 (x216 - 1)) < (x22.length : Int) then (if (rd x22 (wrap64 (x216 - 1))) ≥ (rd x214 x216) then (some false) else (laws_FnRotationsGood.l1 k x20 x22 x26 x27 x28 x29 x214 x215 (wrap64 (x216 + 1)))) else (none)) else (none)) else (laws_FnRotationsGood.l1 k x20 x22 x26 x27 x28 x29 x214 x215 (wrap64 (x216 + 1)))) else (some false)) else (none)) else (none)) else (none)) else (none)) else (laws_FnRotationsGood.j8 k x26 x27 x28 x29)
def laws_FnRotationsGood.j1 : Nat → List Int → List Int → List Int → Int → Int → Option (Bool)
  | 0, _, _, _, _, _ => none
  | k + 1, x1, x5, x6, x10, x14 => if (x6.length : Int) = x14 then ((laws_xSum.f k x5).bind fun t362 => (laws_FnRotationsGood.j2 k x1 x5 x6 (x10 != (wrap64 ((x5.length : Int) - t362))))) else (laws_FnRotationsGood.j2 k x1 x5 x6 true)
def laws_FnRotationsGood.j2 : Nat → List Int → List Int → List Int → Bool → Option (Bool)
  | 0, _, _, _, _ => none
  | k + 1, x1, x5, x6, x115 => if x115 = true then (some false) else (laws_FnRotationsGood.l0 k x1 x5 x6 (x5.length : Int) 0)
def laws_FnRotationsGood.l0 : Nat → List Int → List Int → List Int → Int → Int → Option (Bool)
  | 0, _, _, _, _, _ => none
  | k + 1, x1, x5, x6, x117, x118 => if x118 < x117 then ((impl_RotateList.f k x5 x118).bind fun bt363 => ((impl_IsForest.f k bt363.1).bind fun bt367 => (if bt363.2 = true then (if bt367.2 = true then ((laws_xHas.f k x6 x118).bind fun t369 => (if (bt367.1 != t369) = true then (some false) else (laws_FnRotationsGood.l0 k x1 x5 x6 x117 (wrap64 (x118 + 1))))) else (some false)) else (some false)))) else (laws_FnRotationsGood.j4 k x1)
end
def laws_FnRotationsGood.f (k : Nat) (l0 : List Int) (l1 : List Int) : Option (Bool) := (laws_big.f l0 l1).bind fun t342 => (if t342 = true then (some true) else ((spec_DrawGoodRotations.f k l0).bind fun t343 => ((impl_GoodRotations.f k t343).bind fun bt346 => ((spec_GoodRotations.f k t343).bind fun bt350 => ((impl_ExcessOf.f k t343).bind fun bt354 => ((spec_ExcessOf.f k t343).bind fun bt356 => (if (bt346.2 != bt350.2) = true then (laws_FnRotationsGood.j0 k l1 t343 bt346.1 bt346.2 bt354.1 true) else ((laws_xSame.f k bt346.1 bt350.1).bind fun t358 => (if t358 = true then (if (bt354.2 != bt356.2) = true then (laws_FnRotationsGood.j0 k l1 t343 bt346.1 bt346.2 bt354.1 true) else (if bt354.1 = bt356.1 then ((impl_IsDegrees.f k t343).bind fun t359 => (if (bt346.2 != t359) = true then (laws_FnRotationsGood.j0 k l1 t343 bt346.1 bt346.2 bt354.1 true) else ((impl_IsDegrees.f k t343).bind fun t360 => ((spec_IsDegrees.f k t343).bind fun t361 => (if (t360 != t361) = true then (laws_FnRotationsGood.j0 k l1 t343 bt346.1 bt346.2 bt354.1 true) else (laws_FnRotationsGood.j0 k l1 t343 bt346.1 bt346.2 bt354.1 (bt354.2 != bt346.2))))))) else (laws_FnRotationsGood.j0 k l1 t343 bt346.1 bt346.2 bt354.1 true))) else (laws_FnRotationsGood.j0 k l1 t343 bt346.1 bt346.2 bt354.1 true))))))))))
theorem laws_FnRotationsGood.j0_no {k : Nat} {y0} {y1} {y2} {y3} {y4} : ¬ (laws_FnRotationsGood.j0 k y0 y1 y2 y3 y4 true = some true) := by cases k <;> simp [laws_FnRotationsGood.j0]
theorem laws_FnRotationsGood.j5_no {k : Nat} {y0} {y1} {y2} {y3} {y4} {y5} {y6} {y7} : ¬ (laws_FnRotationsGood.j5 k y0 y1 y2 y3 y4 y5 y6 y7 true = some true) := by cases k <;> simp [laws_FnRotationsGood.j5]
theorem laws_FnRotationsGood.j2_no {k : Nat} {y0} {y1} {y2} : ¬ (laws_FnRotationsGood.j2 k y0 y1 y2 true = some true) := by cases k <;> simp [laws_FnRotationsGood.j2]
set_option maxHeartbeats 8000000 in
set_option maxRecDepth 100000 in
theorem laws_FnRotationsGood.calls (k : Nat) (A0 : Option Addr) (c0 : Nat) (l0 : List Int) (A1 : Option Addr) (c1 : Nat) (l1 : List Int) (w : World) (hr0 : Kd.C (Kd.int .u8) w A0 l0.length l0) (hc0 : l0.length ≤ c0) (hr1 : Kd.C (Kd.int .u8) w A1 l1.length l1) (hc1 : l1.length ≤ c1) (h : laws_FnRotationsGood.f k l0 l1 = some true) :
    Calls Tryd.prog 3 #[.slice A0 l0.length c0, .slice A1 l1.length c1] w fun e w' => e = .returned (.bool true) ∧ Below w.heap.size w w' := by
  have HR0 := Aside0.mk hr0
  have HC0 := Aside0.mk hc0
  clear hr0 hc0
  have HR1 := Aside0.mk hr1
  have HC1 := Aside0.mk hc1
  clear hr1 hc1
  have HB := Aside0.mk (Below.refl w.heap.size w)
  have H : ((laws_big.f l0 l1).bind fun t342 => (if t342 = true then (some true) else ((spec_DrawGoodRotations.f k l0).bind fun t343 => ((impl_GoodRotations.f k t343).bind fun bt346 => ((spec_GoodRotations.f k t343).bind fun bt350 => ((impl_ExcessOf.f k t343).bind fun bt354 => ((spec_ExcessOf.f k t343).bind fun bt356 => (if (bt346.2 != bt350.2) = true then (laws_FnRotationsGood.j0 k l1 t343 bt346.1 bt346.2 bt354.1 true) else ((laws_xSame.f k bt346.1 bt350.1).bind fun t358 => (if t358 = true then (if (bt354.2 != bt356.2) = true then (laws_FnRotationsGood.j0 k l1 t343 bt346.1 bt346.2 bt354.1 true) else (if bt354.1 = bt356.1 then ((impl_IsDegrees.f k t343).bind fun t359 => (if (bt346.2 != t359) = true then (laws_FnRotationsGood.j0 k l1 t343 bt346.1 bt346.2 bt354.1 true) else ((impl_IsDegrees.f k t343).bind fun t360 => ((spec_IsDegrees.f k t343).bind fun t361 => (if (t360 != t361) = true then (laws_FnRotationsGood.j0 k l1 t343 bt346.1 bt346.2 bt354.1 true) else (laws_FnRotationsGood.j0 k l1 t343 bt346.1 bt346.2 bt354.1 (bt354.2 != bt346.2))))))) else (laws_FnRotationsGood.j0 k l1 t343 bt346.1 bt346.2 bt354.1 true))) else (laws_FnRotationsGood.j0 k l1 t343 bt346.1 bt346.2 bt354.1 true))))))))))) = some true := h
  clear h
  replace H := Option.bind_eq_some_iff.mp H
  obtain ⟨t342, A30, H⟩ := H
  (try dsimp only at H)
  have A3 := Aside0.mk A30
  clear A30
  by_cases c4 : t342 = true
  · subst c4
    go_enter Tryd.func3, Tryd.ntmps3
    go_wp2_with (first | ((with_reducible refine gate_callee (f := 4) rfl ?_); refine goesL_ (some 39) rfl rfl Tryd.func4 (by kernel_rfl) rfl #[.slice A0 l0.length c0, .slice A1 l1.length c1] rfl (by (try simp only [List.map_toArray, List.map_cons, List.map_nil]); first | done | rfl | (simp only [List.length_drop, List.length_take]; rfl)) ?_; (with_reducible refine (laws_big.calls _ _ l0 _ _ l1 true _ ?side1 ?side2 ?side3 ?side4 A3.out).mono ?_); (case side1 => repeat (first | exact HR0.out | (with_reducible refine Kd.C_alloc ?_ _) | (with_reducible refine Kd.C_drewN ?_ _) | (with_reducible refine Kd.C_drew ?_))); (case side2 => exact HC0.out); (case side3 => repeat (first | exact HR1.out | (with_reducible refine Kd.C_alloc ?_ _) | (with_reducible refine Kd.C_drewN ?_ _) | (with_reducible refine Kd.C_drew ?_))); (case side4 => exact HC1.out); rintro e w' ⟨rfl, ⟨nd, rfl⟩⟩; refine ⟨_, rfl, ?_⟩))
    go_ret
    exact ⟨by first | rfl | (simp [errW_none, errW_some] <;> rfl) | (simp [*, errW_none, errW_some] <;> rfl), by repeat (first | (with_reducible first | exact HB.out | apply below_alloc | apply pw_below_drewN | apply below_drew1) | exact HB.out)⟩
  · replace c4 := Bool.eq_false_iff.mpr c4
    subst c4
    rw [if_neg (show ¬ (false = true) by decide)] at H
    replace H := Option.bind_eq_some_iff.mp H
    obtain ⟨t343, A50, H⟩ := H
    (try dsimp only at H)
    have A5 := Aside0.mk A50
    clear A50
    replace H := Option.bind_eq_some_iff.mp H
    obtain ⟨⟨t346, t347⟩, A60, H⟩ := H
    (try dsimp only at H)
    have A6 := Aside0.mk A60
    clear A60
    replace H := Option.bind_eq_some_iff.mp H
    obtain ⟨⟨t350, t351⟩, A70, H⟩ := H
    (try dsimp only at H)
    have A7 := Aside0.mk A70
    clear A70
    replace H := Option.bind_eq_some_iff.mp H
    obtain ⟨⟨t354, t355⟩, A80, H⟩ := H
    (try dsimp only at H)
    have A8 := Aside0.mk A80
    clear A80
    replace H := Option.bind_eq_some_iff.mp H
    obtain ⟨⟨t356, t357⟩, A90, H⟩ := H
    (try dsimp only at H)
    have A9 := Aside0.mk A90
    clear A90
    have HC10 := Aside0.mk H
    clear H
    go_enter Tryd.func3, Tryd.ntmps3
    go_upto_region 8 with (first | ((with_reducible refine gate_callee (f := 4) rfl ?_); refine goesL_ (some 39) rfl rfl Tryd.func4 (by kernel_rfl) rfl #[.slice A0 l0.length c0, .slice A1 l1.length c1] rfl (by (try simp only [List.map_toArray, List.map_cons, List.map_nil]); first | done | rfl | (simp only [List.length_drop, List.length_take]; rfl)) ?_; (with_reducible refine (laws_big.calls _ _ l0 _ _ l1 false _ ?side1 ?side2 ?side3 ?side4 A3.out).mono ?_); (case side1 => repeat (first | exact HR0.out | (with_reducible refine Kd.C_alloc ?_ _) | (with_reducible refine Kd.C_drewN ?_ _) | (with_reducible refine Kd.C_drew ?_))); (case side2 => exact HC0.out); (case side3 => repeat (first | exact HR1.out | (with_reducible refine Kd.C_alloc ?_ _) | (with_reducible refine Kd.C_drewN ?_ _) | (with_reducible refine Kd.C_drew ?_))); (case side4 => exact HC1.out); rintro e w' ⟨rfl, ⟨nd, rfl⟩⟩; refine ⟨_, rfl, ?_⟩) | ((with_reducible refine gate_callee (f := 5) rfl ?_); refine goesL_ (some 41) rfl rfl Tryd.func5 (by kernel_rfl) rfl #[.slice A0 l0.length c0] rfl (by (try simp only [List.map_toArray, List.map_cons, List.map_nil]); first | done | rfl | (simp only [List.length_drop, List.length_take]; rfl)) ?_; (with_reducible refine (spec_DrawGoodRotations.calls k _ _ l0 t343 _ ?side1 ?side2 A5.out).mono ?_); (case side1 => repeat (first | exact HR0.out | (with_reducible refine Kd.C_alloc ?_ _) | (with_reducible refine Kd.C_drewN ?_ _) | (with_reducible refine Kd.C_drew ?_))); (case side2 => exact HC0.out); rintro e w11 ⟨v344, rfl, ho0, hb⟩; refine ⟨_, rfl, ?_⟩; have n0_ := Aside0.mk (Kd.R_lower ho0 (below_size (by repeat (first | (with_reducible first | exact HB.out | apply below_alloc | apply pw_below_drewN | apply below_drew1) | exact HB.out)))); have n1_ := Aside0.mk (below_step (by repeat (first | (with_reducible first | exact HB.out | apply below_alloc | apply pw_below_drewN | apply below_drew1) | exact HB.out)) hb); clear HB; have HO345 := n0_; have HB := n1_; clear n0_ n1_; (try clear hb); (try clear hb2); (try clear hk); (try clear hi); (try clear ho0); obtain ⟨Ao12, co12, eo12⟩ := Kd.R_slice HO345.out; subst eo12) | ((with_reducible refine gate_callee (f := 6) rfl ?_); refine goesL_ (some 44) rfl rfl Tryd.func6 (by kernel_rfl) rfl #[.slice Ao12 t343.length co12] rfl (by (try simp only [List.map_toArray, List.map_cons, List.map_nil]); first | done | rfl | (simp only [List.length_drop, List.length_take]; rfl)) ?_; (with_reducible refine (impl_GoodRotations.calls k _ _ t343 t346 t347 _ ?side1 ?side2 A6.out).mono ?_); (case side1 => repeat (first | exact (Kd.R_reads' HO345.out).2.2 | (with_reducible refine Kd.C_alloc ?_ _) | (with_reducible refine Kd.C_drewN ?_ _) | (with_reducible refine Kd.C_drew ?_))); (case side2 => exact (Kd.R_reads' HO345.out).2.1); rintro e w13 ⟨v348, rfl, ho0, hb⟩; refine ⟨_, rfl, ?_⟩; have n0_ := Aside0.mk (Kd.R_elder' (by (with_reducible repeat (first | apply Kd.R_alloc | apply Kd.R_drewN | apply Kd.R_drew)); exact HO345.out) (Kd.R_base ho0) hb); have n1_ := Aside0.mk (Kd.R_lower (Kd.R_new' ho0 (Kd.R_lt (by (with_reducible repeat (first | apply Kd.R_alloc | apply Kd.R_drewN | apply Kd.R_drew)); exact HO345.out))) (below_size (by repeat (first | (with_reducible first | exact HB.out | apply below_alloc | apply pw_below_drewN | apply below_drew1) | exact HB.out)))); have n2_ := Aside0.mk (below_step (by repeat (first | (with_reducible first | exact HB.out | apply below_alloc | apply pw_below_drewN | apply below_drew1) | exact HB.out)) hb); clear HO345; clear HB; have HO345 := n0_; have HO349 := n1_; have HB := n2_; clear n0_ n1_ n2_; (try clear hb); (try clear hb2); (try clear hk); (try clear hi); (try clear ho0)) | ((with_reducible refine gate_callee (f := 7) rfl ?_); refine goesL_ (some 49) rfl rfl Tryd.func7 (by kernel_rfl) rfl #[.slice Ao12 t343.length co12] rfl (by (try simp only [List.map_toArray, List.map_cons, List.map_nil]); first | done | rfl | (simp only [List.length_drop, List.length_take]; rfl)) ?_; (with_reducible refine (spec_GoodRotations.calls k _ _ t343 t350 t351 _ ?side1 ?side2 A7.out).mono ?_); (case side1 => repeat (first | exact (Kd.R_reads' HO345.out).2.2 | (with_reducible refine Kd.C_alloc ?_ _) | (with_reducible refine Kd.C_drewN ?_ _) | (with_reducible refine Kd.C_drew ?_))); (case side2 => exact (Kd.R_reads' HO345.out).2.1); rintro e w14 ⟨v352, rfl, ho0, hb⟩; refine ⟨_, rfl, ?_⟩; have n0_ := Aside0.mk (Kd.R_elder' (by (with_reducible repeat (first | apply Kd.R_alloc | apply Kd.R_drewN | apply Kd.R_drew)); exact HO345.out) (Kd.R_base ho0) hb); have n1_ := Aside0.mk (Kd.R_elder' (by (with_reducible repeat (first | apply Kd.R_alloc | apply Kd.R_drewN | apply Kd.R_drew)); exact HO349.out) (Kd.R_base ho0) hb); have n2_ := Aside0.mk (Kd.R_lower (Kd.R_new' (Kd.R_new' ho0 (Kd.R_lt (by (with_reducible repeat (first | apply Kd.R_alloc | apply Kd.R_drewN | apply Kd.R_drew)); exact HO345.out))) (Kd.R_lt (by (with_reducible repeat (first | apply Kd.R_alloc | apply Kd.R_drewN | apply Kd.R_drew)); exact HO349.out))) (below_size (by repeat (first | (with_reducible first | exact HB.out | apply below_alloc | apply pw_below_drewN | apply below_drew1) | exact HB.out)))); have n3_ := Aside0.mk (below_step (by repeat (first | (with_reducible first | exact HB.out | apply below_alloc | apply pw_below_drewN | apply below_drew1) | exact HB.out)) hb); clear HO345; clear HO349; clear HB; have HO345 := n0_; have HO349 := n1_; have HO353 := n2_; have HB := n3_; clear n0_ n1_ n2_ n3_; (try clear hb); (try clear hb2); (try clear hk); (try clear hi); (try clear ho0)) | ((with_reducible refine gate_callee (f := 8) rfl ?_); refine goesL_ (some 54) rfl rfl Tryd.func8 (by kernel_rfl) rfl #[.slice Ao12 t343.length co12] rfl (by (try simp only [List.map_toArray, List.map_cons, List.map_nil]); first | done | rfl | (simp only [List.length_drop, List.length_take]; rfl)) ?_; (with_reducible refine (impl_ExcessOf.calls k _ _ t343 t354 t355 _ ?side1 ?side2 A8.out).mono ?_); (case side1 => repeat (first | exact (Kd.R_reads' HO345.out).2.2 | (with_reducible refine Kd.C_alloc ?_ _) | (with_reducible refine Kd.C_drewN ?_ _) | (with_reducible refine Kd.C_drew ?_))); (case side2 => exact (Kd.R_reads' HO345.out).2.1); rintro e w' ⟨rfl, ⟨nd, rfl⟩⟩; refine ⟨_, rfl, ?_⟩) | ((with_reducible refine gate_callee (f := 9) rfl ?_); refine goesL_ (some 59) rfl rfl Tryd.func9 (by kernel_rfl) rfl #[.slice Ao12 t343.length co12] rfl (by (try simp only [List.map_toArray, List.map_cons, List.map_nil]); first | done | rfl | (simp only [List.length_drop, List.length_take]; rfl)) ?_; (with_reducible refine (spec_ExcessOf.calls k _ _ t343 t356 t357 _ ?side1 ?side2 A9.out).mono ?_); (case side1 => repeat (first | exact (Kd.R_reads' HO345.out).2.2 | (with_reducible refine Kd.C_alloc ?_ _) | (with_reducible refine Kd.C_drewN ?_ _) | (with_reducible refine Kd.C_drew ?_))); (case side2 => exact (Kd.R_reads' HO345.out).2.1); rintro e w' ⟨rfl, ⟨nd, rfl⟩⟩; refine ⟨_, rfl, ?_⟩))
    (try simp only [Act.put, List.setIfInBounds_toArray, List.set_cons_zero, List.set_cons_succ])
    go_cut [98] from 62 to 97 (fun v98 wc => ∃ (kq : Nat) (x98_9 : Bool), v98 = .bool x98_9 ∧ Aside0 (laws_FnRotationsGood.j0 kq l1 t343 t346 t347 t354 x98_9 = some true) ∧ Aside0 (kq ≤ k) ∧ Aside0 (Kd.R (Kd.int .i64) 3 wc w.heap.size (fun k_ => some k_ ≠ (v348 : Value).ownBlock) (.slice Ao12 t343.length co12) t343) ∧ Aside0 (Kd.R (Kd.int .i64) 3 wc w.heap.size (fun k_ => some k_ ≠ ((.slice Ao12 t343.length co12) : Value).ownBlock) v348 t346) ∧ Aside0 (Below w.heap.size w wc))
    case first =>
      have H := HC10.out
      clear HC10
      by_cases c15 : (t347 != t351) = true
      · rw [if_pos c15] at H
        (first | exact absurd H (by simp; done) | exact absurd H laws_FnRotationsGood.j0_no | exact absurd H laws_FnRotationsGood.j5_no | exact absurd H laws_FnRotationsGood.j2_no)
      · rw [if_neg c15] at H
        have c15b0 : (t347 != t351) = false := by simpa using c15
        (try (have c15b1 : decide (t347 = t351) = true := by simpa using c15))
        (try (have c15b2 : (t347 == t351) = true := by simpa using c15))
        clear c15
        (first | rw [c15b0] | (simp only [i64_w, i32_w]; rw [c15b0]) | skip)
        replace H := Option.bind_eq_some_iff.mp H
        obtain ⟨t358, A160, H⟩ := H
        (try dsimp only at H)
        have A16 := Aside0.mk A160
        clear A160
        by_cases c17 : t358 = true
        · subst c17
          rw [if_pos rfl] at H
          by_cases c18 : (t355 != t357) = true
          · rw [if_pos c18] at H
            (first | exact absurd H (by simp; done) | exact absurd H laws_FnRotationsGood.j0_no | exact absurd H laws_FnRotationsGood.j5_no | exact absurd H laws_FnRotationsGood.j2_no)
          · rw [if_neg c18] at H
            have c18b0 : (t355 != t357) = false := by simpa using c18
            (try (have c18b1 : decide (t355 = t357) = true := by simpa using c18))
            (try (have c18b2 : (t355 == t357) = true := by simpa using c18))
            clear c18
            by_cases c21 : t354 = t356
            · rw [if_pos c21] at H
              have c21b0 : (t354 == t356) = true := beq_iff_eq.mpr c21
              have c21b1 : (t354 != t356) = false := bne_eq_false_iff_eq.mpr c21
              clear c21
              replace H := Option.bind_eq_some_iff.mp H
              obtain ⟨t359, A220, H⟩ := H
              (try dsimp only at H)
              have A22 := Aside0.mk A220
              clear A220
              by_cases c23 : (t347 != t359) = true
              · rw [if_pos c23] at H
                (first | exact absurd H (by simp; done) | exact absurd H laws_FnRotationsGood.j0_no | exact absurd H laws_FnRotationsGood.j5_no | exact absurd H laws_FnRotationsGood.j2_no)
              · rw [if_neg c23] at H
                have c23b0 : (t347 != t359) = false := by simpa using c23
                (try (have c23b1 : decide (t347 = t359) = true := by simpa using c23))
                (try (have c23b2 : (t347 == t359) = true := by simpa using c23))
                clear c23
                replace H := Option.bind_eq_some_iff.mp H
                obtain ⟨t360, A260, H⟩ := H
                (try dsimp only at H)
                have A26 := Aside0.mk A260
                clear A260
                replace H := Option.bind_eq_some_iff.mp H
                obtain ⟨t361, A270, H⟩ := H
                (try dsimp only at H)
                have A27 := Aside0.mk A270
                clear A270
                by_cases c28 : (t360 != t361) = true
                · rw [if_pos c28] at H
                  (first | exact absurd H (by simp; done) | exact absurd H laws_FnRotationsGood.j0_no | exact absurd H laws_FnRotationsGood.j5_no | exact absurd H laws_FnRotationsGood.j2_no)
                · rw [if_neg c28] at H
                  have c28b0 : (t360 != t361) = false := by simpa using c28
                  (try (have c28b1 : decide (t360 = t361) = true := by simpa using c28))
                  (try (have c28b2 : (t360 == t361) = true := by simpa using c28))
                  have e28_ : t360 = t359 := Option.some.inj (A26.out.symm.trans A22.out)
                  have c28b3 : (t359 != t361) = false := by rw [← e28_]; exact c28b0
                  have c28b4 : decide (t359 = t361) = true := by rw [← e28_]; simpa using c28
                  have c28b5 : (t359 == t361) = true := by rw [← e28_]; simpa using c28
                  clear e28_
                  clear c28
                  have H' := Aside0.mk H
                  clear H
                  obtain ⟨Ao31, co31, eo31⟩ := Kd.R_slice HO349.out
                  subst eo31
                  obtain ⟨Ao32, co32, eo32⟩ := Kd.R_slice HO353.out
                  subst eo32
                  go_wp2_with (first | (go_at_call 10; (with_reducible refine (laws_xSame.calls k _ _ t346 _ _ t350 true _ ?side1 ?side2 ?side3 ?side4 A16.out).mono ?_); (case side1 => repeat (first | exact (Kd.R_reads' HO349.out).2.2 | (with_reducible refine Kd.C_alloc ?_ _) | (with_reducible refine Kd.C_drewN ?_ _) | (with_reducible refine Kd.C_drew ?_))); (case side2 => exact (Kd.R_reads' HO349.out).2.1); (case side3 => repeat (first | exact (Kd.R_reads' HO353.out).2.2 | (with_reducible refine Kd.C_alloc ?_ _) | (with_reducible refine Kd.C_drewN ?_ _) | (with_reducible refine Kd.C_drew ?_))); (case side4 => exact (Kd.R_reads' HO353.out).2.1); rintro e w' ⟨rfl, ⟨nd, rfl⟩⟩) | (go_at_call 11; (with_reducible refine (impl_IsDegrees.calls k _ _ t343 t359 _ ?side1 ?side2 A22.out).mono ?_); (case side1 => repeat (first | exact (Kd.R_reads' HO345.out).2.2 | (with_reducible refine Kd.C_alloc ?_ _) | (with_reducible refine Kd.C_drewN ?_ _) | (with_reducible refine Kd.C_drew ?_))); (case side2 => exact (Kd.R_reads' HO345.out).2.1); rintro e w' ⟨rfl, ⟨nd, rfl⟩⟩) | (go_at_call 11; (with_reducible refine (impl_IsDegrees.calls k _ _ t343 t360 _ ?side1 ?side2 A26.out).mono ?_); (case side1 => repeat (first | exact (Kd.R_reads' HO345.out).2.2 | (with_reducible refine Kd.C_alloc ?_ _) | (with_reducible refine Kd.C_drewN ?_ _) | (with_reducible refine Kd.C_drew ?_))); (case side2 => exact (Kd.R_reads' HO345.out).2.1); rintro e w' ⟨rfl, ⟨nd, rfl⟩⟩) | (go_at_call 12; (with_reducible refine (spec_IsDegrees.calls k _ _ t343 t361 _ ?side1 ?side2 A27.out).mono ?_); (case side1 => repeat (first | exact (Kd.R_reads' HO345.out).2.2 | (with_reducible refine Kd.C_alloc ?_ _) | (with_reducible refine Kd.C_drewN ?_ _) | (with_reducible refine Kd.C_drew ?_))); (case side2 => exact (Kd.R_reads' HO345.out).2.1); rintro e w' ⟨rfl, ⟨nd, rfl⟩⟩))
                  go_meet
                  case rel => exact ⟨_, ((t355 != t347)), (by first | rfl | (simp; done) | (simp [*]; done)), H', ⟨by first | omega | exact Nat.le_refl _⟩, ⟨by (with_reducible repeat (first | apply Kd.R_alloc | apply Kd.R_drewN | apply Kd.R_drew)); exact Kd.R_mono HO345.out (fun _ hk => hk.1.2)⟩, ⟨by (with_reducible repeat (first | apply Kd.R_alloc | apply Kd.R_drewN | apply Kd.R_drew)); exact Kd.R_mono HO349.out (fun _ hk => hk.1.2)⟩, ⟨by repeat (first | (with_reducible first | exact HB.out | apply below_alloc | apply pw_below_drewN | apply below_drew1) | exact HB.out)⟩⟩
            · rw [if_neg c21] at H
              (first | exact absurd H (by simp; done) | exact absurd H laws_FnRotationsGood.j0_no | exact absurd H laws_FnRotationsGood.j5_no | exact absurd H laws_FnRotationsGood.j2_no)
        · replace c17 := Bool.eq_false_iff.mpr c17
          subst c17
          rw [if_neg (show ¬ (false = true) by decide)] at H
          (first | exact absurd H (by simp; done) | exact absurd H laws_FnRotationsGood.j0_no | exact absurd H laws_FnRotationsGood.j5_no | exact absurd H laws_FnRotationsGood.j2_no)
    case rest =>
      clear HC10
      try clear c1
      try clear c2
      try clear p2
      try clear c3
      try clear c4
      try clear c5
      try clear c6
      try clear c7
      try clear c8
      try clear c9
      try clear c15
      try clear c15b0
      try clear c15b1
      try clear c15b2
      try clear c17
      try clear c18
      try clear c18b0
      try clear c18b1
      try clear c18b2
      try clear c21
      try clear c21b0
      try clear c21b1
      try clear c23
      try clear c23b0
      try clear c23b1
      try clear c23b2
      try clear c28
      try clear c28b0
      try clear c28b1
      try clear c28b2
      obtain ⟨kq, x98_9, rfl, HA, HJ9, HO_5, HO_6, HB⟩ := hcut
      cases kq with
      | zero => exact absurd HA.out (by simp [laws_FnRotationsGood.j0])
      | succ kj9 =>
        have H := HA.out
        clear HA
        simp only [laws_FnRotationsGood.j0] at H
        by_cases c37 : x98_9 = true
        · subst c37
          have H1 : (some false) = some true := by rw [if_pos rfl] at H; exact H
          clear H
          have H := H1
          clear H1
          (first | exact absurd H (by simp; done) | exact absurd H laws_FnRotationsGood.j0_no | exact absurd H laws_FnRotationsGood.j5_no | exact absurd H laws_FnRotationsGood.j2_no)
        · replace c37 := Bool.eq_false_iff.mpr c37
          subst c37
          rw [if_neg (show ¬ (false = true) by decide)] at H
          have HC38 := Aside0.mk H
          clear H
          go_upto_if 99 with (fail)
          go_cut [] (fun wc => ∃ (kq : Nat), Aside0 (laws_FnRotationsGood.j4 kq l1 = some true) ∧ Aside0 (kq ≤ kj9) ∧ Aside0 (Below w.heap.size w wc))
          case first =>
            have H := HC38.out
            clear HC38
            by_cases c39 : t347 = true
            · subst c39
              rw [if_pos rfl] at H
              have HC40 := Aside0.mk H
              clear H
              go_upto_if 102 with (fail)
              go_cut [14] from 101 to 102 (fun v14 wc => ∃ (kq : Nat) (x14_39 : Int), v14 = .int .i64 x14_39 ∧ Aside0 (laws_FnRotationsGood.j1 kq l1 t343 t346 t354 x14_39 = some true) ∧ Aside0 (kq ≤ kj9) ∧ Aside0 (Kd.R (Kd.int .i64) 3 wc w.heap.size (fun k_ => some k_ ≠ (v348 : Value).ownBlock) (.slice Ao12 t343.length co12) t343) ∧ Aside0 (Kd.R (Kd.int .i64) 3 wc w.heap.size (fun k_ => some k_ ≠ ((.slice Ao12 t343.length co12) : Value).ownBlock) v348 t346) ∧ Aside0 (Below w.heap.size w wc))
              case first =>
                have H := HC40.out
                clear HC40
                by_cases c41 : t354 < 0
                · rw [if_pos c41] at H
                  have c41b0 : decide (t354 < 0) = true := decide_eq_true c41
                  clear c41
                  (first | rw [c41b0] | (simp only [i64_w, i32_w]; rw [c41b0]) | skip)
                  have H' := Aside0.mk H
                  clear H
                  go_wp2
                  go_meet
                  case rel => exact ⟨_, (0), (by first | rfl | (simp; done) | (simp [*]; done)), H', ⟨by have := HJ9.out; first | omega | exact Nat.le_refl _⟩, ⟨by (with_reducible repeat (first | apply Kd.R_alloc | apply Kd.R_drewN | apply Kd.R_drew)); exact HO_5.out⟩, ⟨by (with_reducible repeat (first | apply Kd.R_alloc | apply Kd.R_drewN | apply Kd.R_drew)); exact HO_6.out⟩, ⟨by repeat (first | (with_reducible first | exact HB.out | apply below_alloc | apply pw_below_drewN | apply below_drew1) | exact HB.out)⟩⟩
                · rw [if_neg c41] at H
                  have c41b0 : decide (t354 < 0) = false := decide_eq_false c41
                  clear c41
                  (first | rw [c41b0] | (simp only [i64_w, i32_w]; rw [c41b0]) | skip)
                  have H' := Aside0.mk H
                  clear H
                  go_wp2
                  go_meet
                  case rel => exact ⟨_, (t354), (by first | rfl | (simp; done) | (simp [*]; done)), H', ⟨by have := HJ9.out; first | omega | exact Nat.le_refl _⟩, ⟨by (with_reducible repeat (first | apply Kd.R_alloc | apply Kd.R_drewN | apply Kd.R_drew)); exact HO_5.out⟩, ⟨by (with_reducible repeat (first | apply Kd.R_alloc | apply Kd.R_drewN | apply Kd.R_drew)); exact HO_6.out⟩, ⟨by repeat (first | (with_reducible first | exact HB.out | apply below_alloc | apply pw_below_drewN | apply below_drew1) | exact HB.out)⟩⟩
              case rest =>
                clear HC40
                try clear c1
                try clear c2
                try clear p2
                try clear c3
                try clear c4
                try clear c5
                try clear c6
                try clear c7
                try clear c8
                try clear c9
                try clear c15
                try clear c15b0
                try clear c15b1
                try clear c15b2
                try clear c17
                try clear c18
                try clear c18b0
                try clear c18b1
                try clear c18b2
                try clear c21
                try clear c21b0
                try clear c21b1
                try clear c23
                try clear c23b0
                try clear c23b1
                try clear c23b2
                try clear c28
                try clear c28b0
                try clear c28b1
                try clear c28b2
                try clear c37
                try clear c39
                try clear c41
                try clear c41b0
                try clear p2
                obtain ⟨kq, x14_39, rfl, HA, HJ39, HO_5, HO_6, HB⟩ := hcut
                cases kq with
                | zero => exact absurd HA.out (by simp [laws_FnRotationsGood.j1])
                | succ kj39 =>
                  have H := HA.out
                  clear HA
                  simp only [laws_FnRotationsGood.j1] at H
                  have HC42 := Aside0.mk H
                  clear H
                  go_upto_region 14 with (fail)
                  go_cut [115] from 103 to 114 (fun v115 wc => ∃ (kq : Nat) (x115_41 : Bool), v115 = .bool x115_41 ∧ Aside0 (laws_FnRotationsGood.j2 kq l1 t343 t346 x115_41 = some true) ∧ Aside0 (kq ≤ kj39) ∧ Aside0 (Kd.R (Kd.int .i64) 3 wc w.heap.size (fun k_ => some k_ ≠ (v348 : Value).ownBlock) (.slice Ao12 t343.length co12) t343) ∧ Aside0 (Kd.R (Kd.int .i64) 3 wc w.heap.size (fun k_ => some k_ ≠ ((.slice Ao12 t343.length co12) : Value).ownBlock) v348 t346) ∧ Aside0 (Below w.heap.size w wc))
                  case first =>
                    have H := HC42.out
                    clear HC42
                    by_cases c43 : (t346.length : Int) = x14_39
                    · rw [if_pos c43] at H
                      have c43b0 : ((t346.length : Int) == x14_39) = true := beq_iff_eq.mpr c43
                      have c43b1 : ((t346.length : Int) != x14_39) = false := bne_eq_false_iff_eq.mpr c43
                      clear c43
                      (first | rw [c43b0] | (simp only [i64_w, i32_w]; rw [c43b0]) | skip)
                      replace H := Option.bind_eq_some_iff.mp H
                      obtain ⟨t362, A440, H⟩ := H
                      replace H : (laws_FnRotationsGood.j2 kj39 l1 t343 t346 (t354 != (wrap64 ((t343.length : Int) - t362)))) = some true := H
                      have A44 := Aside0.mk A440
                      clear A440
                      have H' := Aside0.mk H
                      clear H
                      obtain ⟨Ao45, co45, eo45⟩ := Kd.R_slice HO_6.out
                      subst eo45
                      go_wp2_with (first | (go_at_call 13; (with_reducible refine (laws_xSum.calls kj39 _ _ t343 t362 _ ?side1 ?side2 A44.out).mono ?_); (case side1 => repeat (first | exact (Kd.R_reads' HO_5.out).2.2 | (with_reducible refine Kd.C_alloc ?_ _) | (with_reducible refine Kd.C_drewN ?_ _) | (with_reducible refine Kd.C_drew ?_))); (case side2 => exact (Kd.R_reads' HO_5.out).2.1); rintro e w' ⟨rfl, ⟨nd, rfl⟩⟩))
                      go_meet
                      case rel => exact ⟨_, ((t354 != (wrap64 ((t343.length : Int) - t362)))), (by first | rfl | (simp; done) | (simp [*]; done)), H', ⟨by have := HJ9.out; have := HJ39.out; first | omega | exact Nat.le_refl _⟩, ⟨by (with_reducible repeat (first | apply Kd.R_alloc | apply Kd.R_drewN | apply Kd.R_drew)); exact HO_5.out⟩, ⟨by (with_reducible repeat (first | apply Kd.R_alloc | apply Kd.R_drewN | apply Kd.R_drew)); exact HO_6.out⟩, ⟨by repeat (first | (with_reducible first | exact HB.out | apply below_alloc | apply pw_below_drewN | apply below_drew1) | exact HB.out)⟩⟩
                    · rw [if_neg c43] at H
                      (first | exact absurd H (by simp; done) | exact absurd H laws_FnRotationsGood.j0_no | exact absurd H laws_FnRotationsGood.j5_no | exact absurd H laws_FnRotationsGood.j2_no)
                  case rest =>
                    clear HC42
                    try clear c1
                    try clear c2
                    try clear p2
                    try clear c3
                    try clear c4
                    try clear c5
                    try clear c6
                    try clear p6
                    try clear c7
                    try clear c8
                    try clear c9
                    try clear c15
                    try clear c15b0
                    try clear c15b1
                    try clear c15b2
                    try clear c17
                    try clear c18
                    try clear c18b0
                    try clear c18b1
                    try clear c18b2
                    try clear c21
                    try clear c21b0
                    try clear c21b1
                    try clear c23
                    try clear c23b0
                    try clear c23b1
                    try clear c23b2
                    try clear c28
                    try clear c28b0
                    try clear c28b1
                    try clear c28b2
                    try clear c37
                    try clear c39
                    try clear c41
                    try clear c41b0
                    try clear c43
                    try clear c43b0
                    try clear c43b1
                    try clear p2
                    obtain ⟨kq, x115_41, rfl, HA, HJ41, HO_5, HO_6, HB⟩ := hcut
                    cases kq with
                    | zero => exact absurd HA.out (by simp [laws_FnRotationsGood.j2])
                    | succ kj41 =>
                      have H := HA.out
                      clear HA
                      simp only [laws_FnRotationsGood.j2] at H
                      by_cases c47 : x115_41 = true
                      · subst c47
                        have H1 : (some false) = some true := by rw [if_pos rfl] at H; exact H
                        clear H
                        have H := H1
                        clear H1
                        (first | exact absurd H (by simp; done) | exact absurd H laws_FnRotationsGood.j0_no | exact absurd H laws_FnRotationsGood.j5_no | exact absurd H laws_FnRotationsGood.j2_no)
                      · replace c47 := Bool.eq_false_iff.mpr c47
                        subst c47
                        rw [if_neg (show ¬ (false = true) by decide)] at H
                        have H' := Aside0.mk H
                        clear H
                        go_wp2
                        go_loopg [118] kj41 (fun kq v118 w' => ∃ (x118_4 : Int), v118 = .int .i64 x118_4 ∧ Aside0 (laws_FnRotationsGood.l0 kq l1 t343 t346 (t343.length : Int) x118_4 = some true) ∧ Aside0 (kq ≤ kj41) ∧ Aside0 (Kd.R (Kd.int .i64) 3 w' w.heap.size (fun k_ => some k_ ≠ (v348 : Value).ownBlock) (.slice Ao12 t343.length co12) t343) ∧ Aside0 (Kd.R (Kd.int .i64) 3 w' w.heap.size (fun k_ => some k_ ≠ ((.slice Ao12 t343.length co12) : Value).ownBlock) v348 t346) ∧ Aside0 (Below w.heap.size w w'))
                        case atStart => exact ⟨(0), (by first | rfl | (simp; done) | (simp [*]; done)), H', ⟨Nat.le_refl _⟩, ⟨by (with_reducible repeat (first | apply Kd.R_alloc | apply Kd.R_drewN | apply Kd.R_drew)); exact HO_5.out⟩, ⟨by (with_reducible repeat (first | apply Kd.R_alloc | apply Kd.R_drewN | apply Kd.R_drew)); exact HO_6.out⟩, ⟨by repeat (first | (with_reducible first | exact HB.out | apply below_alloc | apply pw_below_drewN | apply below_drew1) | exact HB.out)⟩⟩
                        case round =>
                          clear H'
                          try clear c1
                          try clear c2
                          try clear p2
                          try clear c3
                          try clear c4
                          try clear c5
                          try clear c6
                          try clear p6
                          try clear c7
                          try clear c8
                          try clear c9
                          try clear c15
                          try clear c15b0
                          try clear c15b1
                          try clear c15b2
                          try clear c17
                          try clear c18
                          try clear c18b0
                          try clear c18b1
                          try clear c18b2
                          try clear c21
                          try clear c21b0
                          try clear c21b1
                          try clear c23
                          try clear c23b0
                          try clear c23b1
                          try clear c23b2
                          try clear c28
                          try clear c28b0
                          try clear c28b1
                          try clear c28b2
                          try clear c37
                          try clear c39
                          try clear c41
                          try clear c41b0
                          try clear c43
                          try clear c43b0
                          try clear c43b1
                          try clear c47
                          try clear p2
                          try clear p6
                          obtain ⟨x118_4, rfl, HA, HK4, HO_5, HO_6, HB⟩ := hrel
                          cases gk with
                          | zero => exact absurd HA.out (by simp [laws_FnRotationsGood.l0])
                          | succ k4 =>
                            have H := HA.out
                            clear HA
                            simp only [laws_FnRotationsGood.l0] at H
                            by_cases c48 : x118_4 < (t343.length : Int)
                            · rw [if_pos c48] at H
                              have c48b0 : decide (x118_4 < (t343.length : Int)) = true := decide_eq_true c48
                              clear c48
                              replace H := Option.bind_eq_some_iff.mp H
                              obtain ⟨⟨t363, t364⟩, A490, H⟩ := H
                              (try dsimp only at H)
                              have A49 := Aside0.mk A490
                              clear A490
                              replace H := Option.bind_eq_some_iff.mp H
                              obtain ⟨⟨t367, t368⟩, A500, H⟩ := H
                              (try dsimp only at H)
                              have A50 := Aside0.mk A500
                              clear A500
                              by_cases c51 : t364 = true
                              · subst c51
                                rw [if_pos rfl] at H
                                by_cases c52 : t368 = true
                                · subst c52
                                  rw [if_pos rfl] at H
                                  replace H := Option.bind_eq_some_iff.mp H
                                  obtain ⟨t369, A530, H⟩ := H
                                  (try dsimp only at H)
                                  have A53 := Aside0.mk A530
                                  clear A530
                                  by_cases c54 : (t367 != t369) = true
                                  · rw [if_pos c54] at H
                                    have c54b0 : (t367 != t369) = true := c54
                                    (try (have c54b1 : decide (t367 = t369) = false := by simpa using c54))
                                    (try (have c54b2 : (t367 == t369) = false := by simpa using c54))
                                    (try (have c54b3 : ¬ (t367 = t369) := by simpa using c54))
                                    clear c54
                                    (first | exact absurd H (by simp; done) | exact absurd H laws_FnRotationsGood.j0_no | exact absurd H laws_FnRotationsGood.j5_no | exact absurd H laws_FnRotationsGood.j2_no)
                                  · rw [if_neg c54] at H
                                    have c54b0 : (t367 != t369) = false := by simpa using c54
                                    (try (have c54b1 : decide (t367 = t369) = true := by simpa using c54))
                                    (try (have c54b2 : (t367 == t369) = true := by simpa using c54))
                                    clear c54
                                    have H' := Aside0.mk H
                                    clear H
                                    go_wp2_with (first | ((with_reducible refine gate_callee (f := 14) rfl ?_); refine goesL_ (some 124) rfl rfl Tryd.func14 (by kernel_rfl) rfl #[.slice Ao12 t343.length co12, .int .i64 x118_4] rfl (by (try simp only [List.map_toArray, List.map_cons, List.map_nil]); first | done | rfl | (simp only [List.length_drop, List.length_take]; rfl)) ?_; (with_reducible refine (impl_RotateList.calls k4 _ _ t343 x118_4 t363 true _ ?side1 ?side2 A49.out).mono ?_); (case side1 => repeat (first | exact (Kd.R_reads' HO_5.out).2.2 | (with_reducible refine Kd.C_alloc ?_ _) | (with_reducible refine Kd.C_drewN ?_ _) | (with_reducible refine Kd.C_drew ?_))); (case side2 => exact (Kd.R_reads' HO_5.out).2.1); rintro e w58 ⟨v365, rfl, ho0, hb⟩; refine ⟨_, rfl, ?_⟩; have n0_ := Aside0.mk (Kd.R_elder' (by (with_reducible repeat (first | apply Kd.R_alloc | apply Kd.R_drewN | apply Kd.R_drew)); exact HO_5.out) (Kd.R_base ho0) hb); have n1_ := Aside0.mk (Kd.R_elder' (by (with_reducible repeat (first | apply Kd.R_alloc | apply Kd.R_drewN | apply Kd.R_drew)); exact HO_6.out) (Kd.R_base ho0) hb); have n2_ := Aside0.mk (Kd.R_lower (Kd.R_new' (Kd.R_new' ho0 (Kd.R_lt (by (with_reducible repeat (first | apply Kd.R_alloc | apply Kd.R_drewN | apply Kd.R_drew)); exact HO_5.out))) (Kd.R_lt (by (with_reducible repeat (first | apply Kd.R_alloc | apply Kd.R_drewN | apply Kd.R_drew)); exact HO_6.out))) (below_size (by repeat (first | (with_reducible first | exact HB.out | apply below_alloc | apply pw_below_drewN | apply below_drew1) | exact HB.out)))); have n3_ := Aside0.mk (below_step (by repeat (first | (with_reducible first | exact HB.out | apply below_alloc | apply pw_below_drewN | apply below_drew1) | exact HB.out)) hb); clear HO_5; clear HO_6; clear HB; have HO_5 := n0_; have HO_6 := n1_; have HO366 := n2_; have HB := n3_; clear n0_ n1_ n2_ n3_; (try clear hb); (try clear hb2); (try clear hk); (try clear hi); (try clear ho0); obtain ⟨Ao59, co59, eo59⟩ := Kd.R_slice HO366.out; subst eo59) | ((with_reducible refine gate_callee (f := 15) rfl ?_); refine goesL_ (some 129) rfl rfl Tryd.func15 (by kernel_rfl) rfl #[.slice Ao59 t363.length co59] rfl (by (try simp only [List.map_toArray, List.map_cons, List.map_nil]); first | done | rfl | (simp only [List.length_drop, List.length_take]; rfl)) ?_; (with_reducible refine (impl_IsForest.calls k4 _ _ t363 t367 true _ ?side1 ?side2 A50.out).mono ?_); (case side1 => repeat (first | exact (Kd.R_reads' HO366.out).2.2 | (with_reducible refine Kd.C_alloc ?_ _) | (with_reducible refine Kd.C_drewN ?_ _) | (with_reducible refine Kd.C_drew ?_))); (case side2 => exact (Kd.R_reads' HO366.out).2.1); rintro e w' ⟨rfl, ⟨nd, rfl⟩⟩; refine ⟨_, rfl, ?_⟩; obtain ⟨Ao60, co60, eo60⟩ := Kd.R_slice HO_6.out; subst eo60) | (go_at_call 16; (with_reducible refine (laws_xHas.calls k4 _ _ t346 x118_4 t369 _ ?side1 ?side2 A53.out).mono ?_); (case side1 => repeat (first | exact (Kd.R_reads' HO_6.out).2.2 | (with_reducible refine Kd.C_alloc ?_ _) | (with_reducible refine Kd.C_drewN ?_ _) | (with_reducible refine Kd.C_drew ?_))); (case side2 => exact (Kd.R_reads' HO_6.out).2.1); rintro e w' ⟨rfl, ⟨nd, rfl⟩⟩))
                                    go_roundg k4
                                    case measure => have := HJ9.out; have := HJ39.out; have := HJ41.out; have := HK4.out; omega
                                    case rel => exact ⟨(wrap64 (x118_4 + 1)), (by first | rfl | (simp; done) | (simp [*]; done)), H', ⟨by have := HJ9.out; have := HJ39.out; have := HJ41.out; have := HK4.out; omega⟩, ⟨by (with_reducible repeat (first | apply Kd.R_alloc | apply Kd.R_drewN | apply Kd.R_drew)); exact Kd.R_mono HO_5.out (fun _ hk => hk.1)⟩, ⟨by (with_reducible repeat (first | apply Kd.R_alloc | apply Kd.R_drewN | apply Kd.R_drew)); exact Kd.R_mono HO_6.out (fun _ hk => hk.1)⟩, ⟨by repeat (first | (with_reducible first | exact HB.out | apply below_alloc | apply pw_below_drewN | apply below_drew1) | exact HB.out)⟩⟩
                                · replace c52 := Bool.eq_false_iff.mpr c52
                                  subst c52
                                  have H1 : (some false) = some true := by rw [if_neg (show ¬ (false = true) by decide)] at H; exact H
                                  clear H
                                  have H := H1
                                  clear H1
                                  (first | exact absurd H (by simp; done) | exact absurd H laws_FnRotationsGood.j0_no | exact absurd H laws_FnRotationsGood.j5_no | exact absurd H laws_FnRotationsGood.j2_no)
                              · replace c51 := Bool.eq_false_iff.mpr c51
                                subst c51
                                have H1 : (some false) = some true := by rw [if_neg (show ¬ (false = true) by decide)] at H; exact H
                                clear H
                                have H := H1
                                clear H1
                                (first | exact absurd H (by simp; done) | exact absurd H laws_FnRotationsGood.j0_no | exact absurd H laws_FnRotationsGood.j5_no | exact absurd H laws_FnRotationsGood.j2_no)
                            · rw [if_neg c48] at H
                              have c48b0 : decide (x118_4 < (t343.length : Int)) = false := decide_eq_false c48
                              clear c48
                              have H' := Aside0.mk H
                              clear H
                              go_wp2
                              go_meet
                              case rel => exact ⟨_, H', ⟨by have := HJ9.out; have := HJ39.out; have := HJ41.out; have := HK4.out; first | omega | exact Nat.le_refl _⟩, ⟨by repeat (first | (with_reducible first | exact HB.out | apply below_alloc | apply pw_below_drewN | apply below_drew1) | exact HB.out)⟩⟩
            · replace c39 := Bool.eq_false_iff.mpr c39
              subst c39
              have H1 : (laws_FnRotationsGood.j4 kj9 l1) = some true := by rw [if_neg (show ¬ (false = true) by decide)] at H; exact H
              clear H
              have H := H1
              clear H1
              have H' := Aside0.mk H
              clear H
              go_wp2
              go_meet
              case rel => exact ⟨_, H', ⟨by have := HJ9.out; first | omega | exact Nat.le_refl _⟩, ⟨by repeat (first | (with_reducible first | exact HB.out | apply below_alloc | apply pw_below_drewN | apply below_drew1) | exact HB.out)⟩⟩
          case rest =>
            clear HC38
            try clear c1
            try clear c2
            try clear p2
            try clear c3
            try clear c4
            try clear c5
            try clear c6
            try clear p6
            try clear c7
            try clear c8
            try clear c9
            try clear c14
            try clear c15
            try clear c15b0
            try clear c15b1
            try clear c15b2
            try clear c17
            try clear c18
            try clear c18b0
            try clear c18b1
            try clear c18b2
            try clear c21
            try clear c21b0
            try clear c21b1
            try clear c23
            try clear c23b0
            try clear c23b1
            try clear c23b2
            try clear c28
            try clear c28b0
            try clear c28b1
            try clear c28b2
            try clear c37
            try clear c39
            try clear c41
            try clear c41b0
            try clear c43
            try clear c43b0
            try clear c43b1
            try clear c47
            try clear c48
            try clear c48b0
            try clear c51
            try clear c52
            try clear c54
            try clear c54b0
            try clear c54b1
            try clear c54b2
            try clear p64
            try clear p2
            try clear p6
            obtain ⟨kq, HA, HJ37, HB⟩ := hcut
            cases kq with
            | zero => exact absurd HA.out (by simp [laws_FnRotationsGood.j4])
            | succ kj37 =>
              have H := HA.out
              clear HA
              simp only [laws_FnRotationsGood.j4] at H
              replace H := Option.bind_eq_some_iff.mp H
              obtain ⟨⟨t370, t371⟩, A650, H⟩ := H
              (try dsimp only at H)
              have A65 := Aside0.mk A650
              clear A650
              replace H := Option.bind_eq_some_iff.mp H
              obtain ⟨⟨t372, t373⟩, A660, H⟩ := H
              (try dsimp only at H)
              have A66 := Aside0.mk A660
              clear A660
              replace H := Option.bind_eq_some_iff.mp H
              obtain ⟨⟨t376, t377⟩, A670, H⟩ := H
              (try dsimp only at H)
              have A67 := Aside0.mk A670
              clear A670
              replace H := Option.bind_eq_some_iff.mp H
              obtain ⟨⟨t380, t381⟩, A680, H⟩ := H
              (try dsimp only at H)
              have A68 := Aside0.mk A680
              clear A680
              replace H := Option.bind_eq_some_iff.mp H
              obtain ⟨⟨t384, t385⟩, A690, H⟩ := H
              (try dsimp only at H)
              have A69 := Aside0.mk A690
              clear A690
              replace H := Option.bind_eq_some_iff.mp H
              obtain ⟨⟨t388, t389⟩, A700, H⟩ := H
              (try dsimp only at H)
              have A70 := Aside0.mk A700
              clear A700
              have HC71 := Aside0.mk H
              clear H
              go_upto_region 30 with (first | ((with_reducible refine gate_callee (f := 17) rfl ?_); refine goesL_ (some 148) rfl rfl Tryd.func17 (by kernel_rfl) rfl #[.slice A1 l1.length c1] rfl (by (try simp only [List.map_toArray, List.map_cons, List.map_nil]); first | done | rfl | (simp only [List.length_drop, List.length_take]; rfl)) ?_; (with_reducible refine (spec_DrawRatioRotations.calls kj37 _ _ l1 t370 t371 _ ?side1 ?side2 A65.out).mono ?_); (case side1 => repeat (first | exact (Kd.C_below HR1.out HB.out) | (with_reducible refine Kd.C_alloc ?_ _) | (with_reducible refine Kd.C_drewN ?_ _) | (with_reducible refine Kd.C_drew ?_))); (case side2 => exact HC1.out); rintro e w72 ⟨rfl, hb⟩; refine ⟨_, rfl, ?_⟩; have n0_ := Aside0.mk (below_step (by repeat (first | (with_reducible first | exact HB.out | apply below_alloc | apply pw_below_drewN | apply below_drew1) | exact HB.out)) hb); clear HB; have HB := n0_; clear n0_; (try clear hb); (try clear hb2); (try clear hk); (try clear hi)) | ((with_reducible refine gate_callee (f := 18) rfl ?_); refine goesL_ (some 154) rfl rfl Tryd.func18 (by kernel_rfl) rfl #[.string t370, .int .i64 t371] rfl (by (try simp only [List.map_toArray, List.map_cons, List.map_nil]); first | done | rfl | (simp only [List.length_drop, List.length_take]; rfl)) ?_; (with_reducible refine (impl_RatioRotations.calls kj37 t370 t371 t372 t373 _ A66.out).mono ?_); rintro e w73 ⟨v374, rfl, ho0, hb⟩; refine ⟨_, rfl, ?_⟩; have n0_ := Aside0.mk (Kd.R_lower ho0 (below_size (by repeat (first | (with_reducible first | exact HB.out | apply below_alloc | apply pw_below_drewN | apply below_drew1) | exact HB.out)))); have n1_ := Aside0.mk (below_step (by repeat (first | (with_reducible first | exact HB.out | apply below_alloc | apply pw_below_drewN | apply below_drew1) | exact HB.out)) hb); clear HB; have HO375 := n0_; have HB := n1_; clear n0_ n1_; (try clear hb); (try clear hb2); (try clear hk); (try clear hi); (try clear ho0)) | ((with_reducible refine gate_callee (f := 19) rfl ?_); refine goesL_ (some 160) rfl rfl Tryd.func19 (by kernel_rfl) rfl #[.string t370, .int .i64 t371] rfl (by (try simp only [List.map_toArray, List.map_cons, List.map_nil]); first | done | rfl | (simp only [List.length_drop, List.length_take]; rfl)) ?_; (with_reducible refine (spec_RatioRotations.calls kj37 t370 t371 t376 t377 _ A67.out).mono ?_); rintro e w74 ⟨v378, rfl, ho0, hb⟩; refine ⟨_, rfl, ?_⟩; have n0_ := Aside0.mk (Kd.R_elder' (by (with_reducible repeat (first | apply Kd.R_alloc | apply Kd.R_drewN | apply Kd.R_drew)); exact HO375.out) (Kd.R_base ho0) hb); have n1_ := Aside0.mk (Kd.R_lower (Kd.R_new' ho0 (Kd.R_lt (by (with_reducible repeat (first | apply Kd.R_alloc | apply Kd.R_drewN | apply Kd.R_drew)); exact HO375.out))) (below_size (by repeat (first | (with_reducible first | exact HB.out | apply below_alloc | apply pw_below_drewN | apply below_drew1) | exact HB.out)))); have n2_ := Aside0.mk (below_step (by repeat (first | (with_reducible first | exact HB.out | apply below_alloc | apply pw_below_drewN | apply below_drew1) | exact HB.out)) hb); clear HO375; clear HB; have HO375 := n0_; have HO379 := n1_; have HB := n2_; clear n0_ n1_ n2_; (try clear hb); (try clear hb2); (try clear hk); (try clear hi); (try clear ho0)) | ((with_reducible refine gate_callee (f := 20) rfl ?_); refine goesL_ (some 165) rfl rfl Tryd.func20 (by kernel_rfl) rfl #[.slice A1 l1.length c1] rfl (by (try simp only [List.map_toArray, List.map_cons, List.map_nil]); first | done | rfl | (simp only [List.length_drop, List.length_take]; rfl)) ?_; (with_reducible refine (spec_DrawRotateList.calls kj37 _ _ l1 t380 t381 _ ?side1 ?side2 A68.out).mono ?_); (case side1 => repeat (first | exact (Kd.C_below HR1.out HB.out) | (with_reducible refine Kd.C_alloc ?_ _) | (with_reducible refine Kd.C_drewN ?_ _) | (with_reducible refine Kd.C_drew ?_))); (case side2 => exact HC1.out); rintro e w75 ⟨v382, rfl, ho0, hb⟩; refine ⟨_, rfl, ?_⟩; have n0_ := Aside0.mk (Kd.R_elder' (by (with_reducible repeat (first | apply Kd.R_alloc | apply Kd.R_drewN | apply Kd.R_drew)); exact HO375.out) (Kd.R_base ho0) hb); have n1_ := Aside0.mk (Kd.R_elder' (by (with_reducible repeat (first | apply Kd.R_alloc | apply Kd.R_drewN | apply Kd.R_drew)); exact HO379.out) (Kd.R_base ho0) hb); have n2_ := Aside0.mk (Kd.R_lower (Kd.R_new' (Kd.R_new' ho0 (Kd.R_lt (by (with_reducible repeat (first | apply Kd.R_alloc | apply Kd.R_drewN | apply Kd.R_drew)); exact HO375.out))) (Kd.R_lt (by (with_reducible repeat (first | apply Kd.R_alloc | apply Kd.R_drewN | apply Kd.R_drew)); exact HO379.out))) (below_size (by repeat (first | (with_reducible first | exact HB.out | apply below_alloc | apply pw_below_drewN | apply below_drew1) | exact HB.out)))); have n3_ := Aside0.mk (below_step (by repeat (first | (with_reducible first | exact HB.out | apply below_alloc | apply pw_below_drewN | apply below_drew1) | exact HB.out)) hb); clear HO375; clear HO379; clear HB; have HO375 := n0_; have HO379 := n1_; have HO383 := n2_; have HB := n3_; clear n0_ n1_ n2_ n3_; (try clear hb); (try clear hb2); (try clear hk); (try clear hi); (try clear ho0); obtain ⟨Ao76, co76, eo76⟩ := Kd.R_slice HO383.out; subst eo76) | ((with_reducible refine gate_callee (f := 14) rfl ?_); refine goesL_ (some 171) rfl rfl Tryd.func14 (by kernel_rfl) rfl #[.slice Ao76 t380.length co76, .int .i64 t381] rfl (by (try simp only [List.map_toArray, List.map_cons, List.map_nil]); first | done | rfl | (simp only [List.length_drop, List.length_take]; rfl)) ?_; (with_reducible refine (impl_RotateList.calls kj37 _ _ t380 t381 t384 t385 _ ?side1 ?side2 A69.out).mono ?_); (case side1 => repeat (first | exact (Kd.R_reads' HO383.out).2.2 | (with_reducible refine Kd.C_alloc ?_ _) | (with_reducible refine Kd.C_drewN ?_ _) | (with_reducible refine Kd.C_drew ?_))); (case side2 => exact (Kd.R_reads' HO383.out).2.1); rintro e w77 ⟨v386, rfl, ho0, hb⟩; refine ⟨_, rfl, ?_⟩; have n0_ := Aside0.mk (Kd.R_elder' (by (with_reducible repeat (first | apply Kd.R_alloc | apply Kd.R_drewN | apply Kd.R_drew)); exact HO375.out) (Kd.R_base ho0) hb); have n1_ := Aside0.mk (Kd.R_elder' (by (with_reducible repeat (first | apply Kd.R_alloc | apply Kd.R_drewN | apply Kd.R_drew)); exact HO379.out) (Kd.R_base ho0) hb); have n2_ := Aside0.mk (Kd.R_elder' (by (with_reducible repeat (first | apply Kd.R_alloc | apply Kd.R_drewN | apply Kd.R_drew)); exact HO383.out) (Kd.R_base ho0) hb); have n3_ := Aside0.mk (Kd.R_lower (Kd.R_new' (Kd.R_new' (Kd.R_new' ho0 (Kd.R_lt (by (with_reducible repeat (first | apply Kd.R_alloc | apply Kd.R_drewN | apply Kd.R_drew)); exact HO375.out))) (Kd.R_lt (by (with_reducible repeat (first | apply Kd.R_alloc | apply Kd.R_drewN | apply Kd.R_drew)); exact HO379.out))) (Kd.R_lt (by (with_reducible repeat (first | apply Kd.R_alloc | apply Kd.R_drewN | apply Kd.R_drew)); exact HO383.out))) (below_size (by repeat (first | (with_reducible first | exact HB.out | apply below_alloc | apply pw_below_drewN | apply below_drew1) | exact HB.out)))); have n4_ := Aside0.mk (below_step (by repeat (first | (with_reducible first | exact HB.out | apply below_alloc | apply pw_below_drewN | apply below_drew1) | exact HB.out)) hb); clear HO375; clear HO379; clear HO383; clear HB; have HO375 := n0_; have HO379 := n1_; have HO383 := n2_; have HO387 := n3_; have HB := n4_; clear n0_ n1_ n2_ n3_ n4_; (try clear hb); (try clear hb2); (try clear hk); (try clear hi); (try clear ho0)) | ((with_reducible refine gate_callee (f := 21) rfl ?_); refine goesL_ (some 177) rfl rfl Tryd.func21 (by kernel_rfl) rfl #[.slice Ao76 t380.length co76, .int .i64 t381] rfl (by (try simp only [List.map_toArray, List.map_cons, List.map_nil]); first | done | rfl | (simp only [List.length_drop, List.length_take]; rfl)) ?_; (with_reducible refine (spec_RotateList.calls kj37 _ _ t380 t381 t388 t389 _ ?side1 ?side2 A70.out).mono ?_); (case side1 => repeat (first | exact (Kd.R_reads' HO383.out).2.2 | (with_reducible refine Kd.C_alloc ?_ _) | (with_reducible refine Kd.C_drewN ?_ _) | (with_reducible refine Kd.C_drew ?_))); (case side2 => exact (Kd.R_reads' HO383.out).2.1); rintro e w78 ⟨v390, rfl, ho0, hb⟩; refine ⟨_, rfl, ?_⟩; have n0_ := Aside0.mk (Kd.R_elder' (by (with_reducible repeat (first | apply Kd.R_alloc | apply Kd.R_drewN | apply Kd.R_drew)); exact HO375.out) (Kd.R_base ho0) hb); have n1_ := Aside0.mk (Kd.R_elder' (by (with_reducible repeat (first | apply Kd.R_alloc | apply Kd.R_drewN | apply Kd.R_drew)); exact HO379.out) (Kd.R_base ho0) hb); have n2_ := Aside0.mk (Kd.R_elder' (by (with_reducible repeat (first | apply Kd.R_alloc | apply Kd.R_drewN | apply Kd.R_drew)); exact HO383.out) (Kd.R_base ho0) hb); have n3_ := Aside0.mk (Kd.R_elder' (by (with_reducible repeat (first | apply Kd.R_alloc | apply Kd.R_drewN | apply Kd.R_drew)); exact HO387.out) (Kd.R_base ho0) hb); have n4_ := Aside0.mk (Kd.R_lower (Kd.R_new' (Kd.R_new' (Kd.R_new' (Kd.R_new' ho0 (Kd.R_lt (by (with_reducible repeat (first | apply Kd.R_alloc | apply Kd.R_drewN | apply Kd.R_drew)); exact HO375.out))) (Kd.R_lt (by (with_reducible repeat (first | apply Kd.R_alloc | apply Kd.R_drewN | apply Kd.R_drew)); exact HO379.out))) (Kd.R_lt (by (with_reducible repeat (first | apply Kd.R_alloc | apply Kd.R_drewN | apply Kd.R_drew)); exact HO383.out))) (Kd.R_lt (by (with_reducible repeat (first | apply Kd.R_alloc | apply Kd.R_drewN | apply Kd.R_drew)); exact HO387.out))) (below_size (by repeat (first | (with_reducible first | exact HB.out | apply below_alloc | apply pw_below_drewN | apply below_drew1) | exact HB.out)))); have n5_ := Aside0.mk (below_step (by repeat (first | (with_reducible first | exact HB.out | apply below_alloc | apply pw_below_drewN | apply below_drew1) | exact HB.out)) hb); clear HO375; clear HO379; clear HO383; clear HO387; clear HB; have HO375 := n0_; have HO379 := n1_; have HO383 := n2_; have HO387 := n3_; have HO391 := n4_; have HB := n5_; clear n0_ n1_ n2_ n3_ n4_ n5_; (try clear hb); (try clear hb2); (try clear hk); (try clear hi); (try clear ho0)))
              (try simp only [Act.put, List.setIfInBounds_toArray, List.set_cons_zero, List.set_cons_succ])
              go_cut [199] from 180 to 198 (fun v199 wc => ∃ (kq : Nat) (x199_70 : Bool), v199 = .bool x199_70 ∧ Aside0 (laws_FnRotationsGood.j5 kq t370 t371 t372 t373 t380 t381 t384 t385 x199_70 = some true) ∧ Aside0 (kq ≤ kj37) ∧ Aside0 (Kd.R (Kd.int .i64) 3 wc w.heap.size (fun k_ => some k_ ≠ ((.slice Ao76 t380.length co76) : Value).ownBlock ∧ some k_ ≠ (v386 : Value).ownBlock) v374 t372) ∧ Aside0 (Kd.R (Kd.int .i64) 3 wc w.heap.size (fun k_ => some k_ ≠ (v374 : Value).ownBlock ∧ some k_ ≠ (v386 : Value).ownBlock) (.slice Ao76 t380.length co76) t380) ∧ Aside0 (Kd.R (Kd.int .i64) 3 wc w.heap.size (fun k_ => some k_ ≠ (v374 : Value).ownBlock ∧ some k_ ≠ ((.slice Ao76 t380.length co76) : Value).ownBlock) v386 t384) ∧ Aside0 (Below w.heap.size w wc))
              case first =>
                have H := HC71.out
                clear HC71
                by_cases c79 : (t373 != t377) = true
                · rw [if_pos c79] at H
                  (first | exact absurd H (by simp; done) | exact absurd H laws_FnRotationsGood.j0_no | exact absurd H laws_FnRotationsGood.j5_no | exact absurd H laws_FnRotationsGood.j2_no)
                · rw [if_neg c79] at H
                  have c79b0 : (t373 != t377) = false := by simpa using c79
                  (try (have c79b1 : decide (t373 = t377) = true := by simpa using c79))
                  (try (have c79b2 : (t373 == t377) = true := by simpa using c79))
                  clear c79
                  (first | rw [c79b0] | (simp only [i64_w, i32_w]; rw [c79b0]) | skip)
                  replace H := Option.bind_eq_some_iff.mp H
                  obtain ⟨t392, A800, H⟩ := H
                  (try dsimp only at H)
                  have A80 := Aside0.mk A800
                  clear A800
                  by_cases c81 : t392 = true
                  · subst c81
                    rw [if_pos rfl] at H
                    by_cases c82 : (t385 != t389) = true
                    · rw [if_pos c82] at H
                      (first | exact absurd H (by simp; done) | exact absurd H laws_FnRotationsGood.j0_no | exact absurd H laws_FnRotationsGood.j5_no | exact absurd H laws_FnRotationsGood.j2_no)
                    · rw [if_neg c82] at H
                      have c82b0 : (t385 != t389) = false := by simpa using c82
                      (try (have c82b1 : decide (t385 = t389) = true := by simpa using c82))
                      (try (have c82b2 : (t385 == t389) = true := by simpa using c82))
                      clear c82
                      replace H := Option.bind_eq_some_iff.mp H
                      obtain ⟨t393, A850, H⟩ := H
                      replace H : (laws_FnRotationsGood.j5 kj37 t370 t371 t372 t373 t380 t381 t384 t385 (!t393)) = some true := H
                      have A85 := Aside0.mk A850
                      clear A850
                      have H' := Aside0.mk H
                      clear H
                      obtain ⟨Ao86, co86, eo86⟩ := Kd.R_slice HO375.out
                      subst eo86
                      obtain ⟨Ao87, co87, eo87⟩ := Kd.R_slice HO379.out
                      subst eo87
                      go_wp2_with (first | (go_at_call 10; (with_reducible refine (laws_xSame.calls kj37 _ _ t372 _ _ t376 true _ ?side1 ?side2 ?side3 ?side4 A80.out).mono ?_); (case side1 => repeat (first | exact (Kd.R_reads' HO375.out).2.2 | (with_reducible refine Kd.C_alloc ?_ _) | (with_reducible refine Kd.C_drewN ?_ _) | (with_reducible refine Kd.C_drew ?_))); (case side2 => exact (Kd.R_reads' HO375.out).2.1); (case side3 => repeat (first | exact (Kd.R_reads' HO379.out).2.2 | (with_reducible refine Kd.C_alloc ?_ _) | (with_reducible refine Kd.C_drewN ?_ _) | (with_reducible refine Kd.C_drew ?_))); (case side4 => exact (Kd.R_reads' HO379.out).2.1); rintro e w' ⟨rfl, ⟨nd, rfl⟩⟩; obtain ⟨Ao88, co88, eo88⟩ := Kd.R_slice HO387.out; subst eo88; obtain ⟨Ao89, co89, eo89⟩ := Kd.R_slice HO391.out; subst eo89) | (go_at_call 10; (with_reducible refine (laws_xSame.calls kj37 _ _ t384 _ _ t388 t393 _ ?side1 ?side2 ?side3 ?side4 A85.out).mono ?_); (case side1 => repeat (first | exact (Kd.R_reads' HO387.out).2.2 | (with_reducible refine Kd.C_alloc ?_ _) | (with_reducible refine Kd.C_drewN ?_ _) | (with_reducible refine Kd.C_drew ?_))); (case side2 => exact (Kd.R_reads' HO387.out).2.1); (case side3 => repeat (first | exact (Kd.R_reads' HO391.out).2.2 | (with_reducible refine Kd.C_alloc ?_ _) | (with_reducible refine Kd.C_drewN ?_ _) | (with_reducible refine Kd.C_drew ?_))); (case side4 => exact (Kd.R_reads' HO391.out).2.1); rintro e w' ⟨rfl, ⟨nd, rfl⟩⟩))
                      go_meet
                      case rel => exact ⟨_, (!t393), (by first | rfl | (simp; done) | (simp [*]; done)), H', ⟨by have := HJ9.out; have := HJ37.out; first | omega | exact Nat.le_refl _⟩, ⟨by (with_reducible repeat (first | apply Kd.R_alloc | apply Kd.R_drewN | apply Kd.R_drew)); exact Kd.R_mono HO375.out (fun _ hk => ⟨hk.1.1.2, hk.1.2⟩)⟩, ⟨by (with_reducible repeat (first | apply Kd.R_alloc | apply Kd.R_drewN | apply Kd.R_drew)); exact Kd.R_mono HO383.out (fun _ hk => ⟨hk.1.1.1.2, hk.1.2⟩)⟩, ⟨by (with_reducible repeat (first | apply Kd.R_alloc | apply Kd.R_drewN | apply Kd.R_drew)); exact Kd.R_mono HO387.out (fun _ hk => ⟨hk.1.1.1.2, hk.1.2⟩)⟩, ⟨by repeat (first | (with_reducible first | exact HB.out | apply below_alloc | apply pw_below_drewN | apply below_drew1) | exact HB.out)⟩⟩
                  · replace c81 := Bool.eq_false_iff.mpr c81
                    subst c81
                    rw [if_neg (show ¬ (false = true) by decide)] at H
                    (first | exact absurd H (by simp; done) | exact absurd H laws_FnRotationsGood.j0_no | exact absurd H laws_FnRotationsGood.j5_no | exact absurd H laws_FnRotationsGood.j2_no)
              case rest =>
                clear HC71
                try clear c1
                try clear c2
                try clear p2
                try clear c3
                try clear c4
                try clear c5
                try clear c6
                try clear p6
                try clear c7
                try clear c8
                try clear c9
                try clear c14
                try clear c15
                try clear c15b0
                try clear c15b1
                try clear c15b2
                try clear c17
                try clear c18
                try clear c18b0
                try clear c18b1
                try clear c18b2
                try clear c19
                try clear c20
                try clear c21
                try clear c21b0
                try clear c21b1
                try clear c23
                try clear c23b0
                try clear c23b1
                try clear c23b2
                try clear c28
                try clear c28b0
                try clear c28b1
                try clear c28b2
                try clear c37
                try clear c39
                try clear c41
                try clear c41b0
                try clear c43
                try clear c43b0
                try clear c43b1
                try clear c47
                try clear c48
                try clear c48b0
                try clear c51
                try clear c52
                try clear c54
                try clear c54b0
                try clear c54b1
                try clear c54b2
                try clear p64
                try clear c79
                try clear c79b0
                try clear c79b1
                try clear c79b2
                try clear c81
                try clear c82
                try clear c82b0
                try clear c82b1
                try clear c82b2
                try clear p2
                try clear p6
                try clear p64
                obtain ⟨kq, x199_70, rfl, HA, HJ70, HO_22, HO_26, HO_28, HB⟩ := hcut
                cases kq with
                | zero => exact absurd HA.out (by simp [laws_FnRotationsGood.j5])
                | succ kj70 =>
                  have H := HA.out
                  clear HA
                  simp only [laws_FnRotationsGood.j5] at H
                  by_cases c92 : x199_70 = true
                  · subst c92
                    have H1 : (some false) = some true := by rw [if_pos rfl] at H; exact H
                    clear H
                    have H := H1
                    clear H1
                    (first | exact absurd H (by simp; done) | exact absurd H laws_FnRotationsGood.j0_no | exact absurd H laws_FnRotationsGood.j5_no | exact absurd H laws_FnRotationsGood.j2_no)
                  · replace c92 := Bool.eq_false_iff.mpr c92
                    subst c92
                    rw [if_neg (show ¬ (false = true) by decide)] at H
                    have HC93 := Aside0.mk H
                    clear H
                    go_upto_if 200 with (fail)
                    go_cut [] (fun wc => ∃ (kq : Nat), Aside0 (laws_FnRotationsGood.j8 kq t380 t381 t384 t385 = some true) ∧ Aside0 (kq ≤ kj70) ∧ Aside0 (Kd.R (Kd.int .i64) 3 wc w.heap.size (fun k_ => some k_ ≠ (v386 : Value).ownBlock) (.slice Ao76 t380.length co76) t380) ∧ Aside0 (Kd.R (Kd.int .i64) 3 wc w.heap.size (fun k_ => some k_ ≠ ((.slice Ao76 t380.length co76) : Value).ownBlock) v386 t384) ∧ Aside0 (Below w.heap.size w wc))
                    case first =>
                      have H := HC93.out
                      clear HC93
                      by_cases c94 : t373 = true
                      · subst c94
                        rw [if_pos rfl] at H
                        replace H := Option.bind_eq_some_iff.mp H
                        obtain ⟨t394, A950, H⟩ := H
                        (try dsimp only at H)
                        have A95 := Aside0.mk A950
                        clear A950
                        replace H := Option.bind_eq_some_iff.mp H
                        obtain ⟨t395, A960, H⟩ := H
                        (try dsimp only at H)
                        have A96 := Aside0.mk A960
                        clear A960
                        have HC97 := Aside0.mk H
                        clear H
                        go_upto_if 209 with (first | ((with_reducible refine gate_callee (f := 22) rfl ?_); refine goesL_ (some 202) rfl rfl Tryd.func22 (by kernel_rfl) rfl #[.string t370, .int .u8 85] rfl (by (try simp only [List.map_toArray, List.map_cons, List.map_nil]); first | done | rfl | (simp only [List.length_drop, List.length_take]; rfl)) ?_; (with_reducible refine (laws_xCount.calls kj70 t370 85 t394 _ A95.out).mono ?_); rintro e w' ⟨rfl, ⟨nd, rfl⟩⟩; refine ⟨_, rfl, ?_⟩) | ((with_reducible refine gate_callee (f := 22) rfl ?_); refine goesL_ (some 205) rfl rfl Tryd.func22 (by kernel_rfl) rfl #[.string t370, .int .u8 68] rfl (by (try simp only [List.map_toArray, List.map_cons, List.map_nil]); first | done | rfl | (simp only [List.length_drop, List.length_take]; rfl)) ?_; (with_reducible refine (laws_xCount.calls kj70 t370 68 t395 _ A96.out).mono ?_); rintro e w' ⟨rfl, ⟨nd, rfl⟩⟩; refine ⟨_, rfl, ?_⟩))
                        (try simp only [Act.put, List.setIfInBounds_toArray, List.set_cons_zero, List.set_cons_succ])
                        go_cut [32] from 208 to 209 (fun v32 wc => ∃ (kq : Nat) (x32_96 : Int), v32 = .int .i64 x32_96 ∧ Aside0 (laws_FnRotationsGood.j6 kq t370 t372 t380 t381 t384 t385 x32_96 = some true) ∧ Aside0 (kq ≤ kj70) ∧ Aside0 (Kd.R (Kd.int .i64) 3 wc w.heap.size (fun k_ => some k_ ≠ ((.slice Ao76 t380.length co76) : Value).ownBlock ∧ some k_ ≠ (v386 : Value).ownBlock) v374 t372) ∧ Aside0 (Kd.R (Kd.int .i64) 3 wc w.heap.size (fun k_ => some k_ ≠ (v374 : Value).ownBlock ∧ some k_ ≠ (v386 : Value).ownBlock) (.slice Ao76 t380.length co76) t380) ∧ Aside0 (Kd.R (Kd.int .i64) 3 wc w.heap.size (fun k_ => some k_ ≠ (v374 : Value).ownBlock ∧ some k_ ≠ ((.slice Ao76 t380.length co76) : Value).ownBlock) v386 t384) ∧ Aside0 (Below w.heap.size w wc))
                        case first =>
                          have H := HC97.out
                          clear HC97
                          by_cases c98 : (wrap64 (t394 - (wrap64 (t371 * t395)))) < 0
                          · rw [if_pos c98] at H
                            have c98b0 : decide ((wrap64 (t394 - (wrap64 (t371 * t395)))) < 0) = true := decide_eq_true c98
                            clear c98
                            (first | rw [c98b0] | (simp only [i64_w, i32_w]; rw [c98b0]) | skip)
                            have H' := Aside0.mk H
                            clear H
                            go_wp2
                            go_meet
                            case rel => exact ⟨_, (0), (by first | rfl | (simp; done) | (simp [*]; done)), H', ⟨by have := HJ9.out; have := HJ37.out; have := HJ70.out; first | omega | exact Nat.le_refl _⟩, ⟨by (with_reducible repeat (first | apply Kd.R_alloc | apply Kd.R_drewN | apply Kd.R_drew)); exact HO_22.out⟩, ⟨by (with_reducible repeat (first | apply Kd.R_alloc | apply Kd.R_drewN | apply Kd.R_drew)); exact HO_26.out⟩, ⟨by (with_reducible repeat (first | apply Kd.R_alloc | apply Kd.R_drewN | apply Kd.R_drew)); exact HO_28.out⟩, ⟨by repeat (first | (with_reducible first | exact HB.out | apply below_alloc | apply pw_below_drewN | apply below_drew1) | exact HB.out)⟩⟩
                          · rw [if_neg c98] at H
                            have c98b0 : decide ((wrap64 (t394 - (wrap64 (t371 * t395)))) < 0) = false := decide_eq_false c98
                            clear c98
                            (first | rw [c98b0] | (simp only [i64_w, i32_w]; rw [c98b0]) | skip)
                            have H' := Aside0.mk H
                            clear H
                            go_wp2
                            go_meet
                            case rel => exact ⟨_, (wrap64 (t394 - (wrap64 (t371 * t395)))), (by first | rfl | (simp; done) | (simp [*]; done)), H', ⟨by have := HJ9.out; have := HJ37.out; have := HJ70.out; first | omega | exact Nat.le_refl _⟩, ⟨by (with_reducible repeat (first | apply Kd.R_alloc | apply Kd.R_drewN | apply Kd.R_drew)); exact HO_22.out⟩, ⟨by (with_reducible repeat (first | apply Kd.R_alloc | apply Kd.R_drewN | apply Kd.R_drew)); exact HO_26.out⟩, ⟨by (with_reducible repeat (first | apply Kd.R_alloc | apply Kd.R_drewN | apply Kd.R_drew)); exact HO_28.out⟩, ⟨by repeat (first | (with_reducible first | exact HB.out | apply below_alloc | apply pw_below_drewN | apply below_drew1) | exact HB.out)⟩⟩
                        case rest =>
                          clear HC97
                          try clear c1
                          try clear c2
                          try clear p2
                          try clear c3
                          try clear c4
                          try clear c5
                          try clear c6
                          try clear p6
                          try clear c7
                          try clear c8
                          try clear c9
                          try clear c14
                          try clear c15
                          try clear c15b0
                          try clear c15b1
                          try clear c15b2
                          try clear c17
                          try clear c18
                          try clear c18b0
                          try clear c18b1
                          try clear c18b2
                          try clear c19
                          try clear c20
                          try clear c21
                          try clear c21b0
                          try clear c21b1
                          try clear c22
                          try clear c23
                          try clear c23b0
                          try clear c23b1
                          try clear c23b2
                          try clear c28
                          try clear c28b0
                          try clear c28b1
                          try clear c28b2
                          try clear c37
                          try clear c39
                          try clear c41
                          try clear c41b0
                          try clear c43
                          try clear c43b0
                          try clear c43b1
                          try clear c47
                          try clear c48
                          try clear c48b0
                          try clear c51
                          try clear c52
                          try clear c54
                          try clear c54b0
                          try clear c54b1
                          try clear c54b2
                          try clear p64
                          try clear c79
                          try clear c79b0
                          try clear c79b1
                          try clear c79b2
                          try clear c81
                          try clear c82
                          try clear c82b0
                          try clear c82b1
                          try clear c82b2
                          try clear c92
                          try clear c94
                          try clear c98
                          try clear c98b0
                          try clear p2
                          try clear p6
                          try clear p64
                          obtain ⟨kq, x32_96, rfl, HA, HJ96, HO_22, HO_26, HO_28, HB⟩ := hcut
                          cases kq with
                          | zero => exact absurd HA.out (by simp [laws_FnRotationsGood.j6])
                          | succ kj96 =>
                            have H := HA.out
                            clear HA
                            simp only [laws_FnRotationsGood.j6] at H
                            by_cases c99 : (t372.length : Int) = x32_96
                            · rw [if_pos c99] at H
                              have c99b0 : ((t372.length : Int) == x32_96) = true := beq_iff_eq.mpr c99
                              have c99b1 : ((t372.length : Int) != x32_96) = false := bne_eq_false_iff_eq.mpr c99
                              clear c99
                              have H' := Aside0.mk H
                              clear H
                              obtain ⟨Ao100, co100, eo100⟩ := Kd.R_slice HO_22.out
                              subst eo100
                              go_wp2
                              go_loopg [216] kj96 (fun kq v216 w' => ∃ (x216_5 : Int), v216 = .int .i64 x216_5 ∧ Aside0 (laws_FnRotationsGood.l1 kq t370 t372 t380 t381 t384 t385 t372 (t372.length : Int) x216_5 = some true) ∧ Aside0 (kq ≤ kj96) ∧ Aside0 (Kd.R (Kd.int .i64) 3 w' w.heap.size (fun k_ => some k_ ≠ ((.slice Ao76 t380.length co76) : Value).ownBlock ∧ some k_ ≠ (v386 : Value).ownBlock) (.slice Ao100 t372.length co100) t372) ∧ Aside0 (Kd.R (Kd.int .i64) 3 w' w.heap.size (fun k_ => some k_ ≠ ((.slice Ao100 t372.length co100) : Value).ownBlock ∧ some k_ ≠ (v386 : Value).ownBlock ∧ some k_ ≠ ((.slice Ao100 t372.length co100) : Value).ownBlock) (.slice Ao76 t380.length co76) t380) ∧ Aside0 (Kd.R (Kd.int .i64) 3 w' w.heap.size (fun k_ => some k_ ≠ ((.slice Ao100 t372.length co100) : Value).ownBlock ∧ some k_ ≠ ((.slice Ao76 t380.length co76) : Value).ownBlock ∧ some k_ ≠ ((.slice Ao100 t372.length co100) : Value).ownBlock) v386 t384) ∧ Aside0 (Kd.R (Kd.int .i64) 3 w' w.heap.size (fun k_ => some k_ ≠ ((.slice Ao76 t380.length co76) : Value).ownBlock ∧ some k_ ≠ (v386 : Value).ownBlock) (.slice Ao100 t372.length co100) t372) ∧ Aside0 (Below w.heap.size w w'))
                              case atStart => exact ⟨(0), (by first | rfl | (simp; done) | (simp [*]; done)), H', ⟨Nat.le_refl _⟩, ⟨by (with_reducible repeat (first | apply Kd.R_alloc | apply Kd.R_drewN | apply Kd.R_drew)); exact HO_22.out⟩, ⟨by (with_reducible repeat (first | apply Kd.R_alloc | apply Kd.R_drewN | apply Kd.R_drew)); exact Kd.R_mono HO_26.out (fun _ hk => ⟨hk.1, ⟨hk.2, hk.1⟩⟩)⟩, ⟨by (with_reducible repeat (first | apply Kd.R_alloc | apply Kd.R_drewN | apply Kd.R_drew)); exact Kd.R_mono HO_28.out (fun _ hk => ⟨hk.1, ⟨hk.2, hk.1⟩⟩)⟩, ⟨by (with_reducible repeat (first | apply Kd.R_alloc | apply Kd.R_drewN | apply Kd.R_drew)); exact HO_22.out⟩, ⟨by repeat (first | (with_reducible first | exact HB.out | apply below_alloc | apply pw_below_drewN | apply below_drew1) | exact HB.out)⟩⟩
                              case round =>
                                clear H'
                                try clear c1
                                try clear c2
                                try clear p2
                                try clear c3
                                try clear c4
                                try clear c5
                                try clear c6
                                try clear p6
                                try clear c7
                                try clear c8
                                try clear c9
                                try clear c14
                                try clear c15
                                try clear c15b0
                                try clear c15b1
                                try clear c15b2
                                try clear c17
                                try clear c18
                                try clear c18b0
                                try clear c18b1
                                try clear c18b2
                                try clear c19
                                try clear c20
                                try clear c21
                                try clear c21b0
                                try clear c21b1
                                try clear c22
                                try clear c23
                                try clear c23b0
                                try clear c23b1
                                try clear c23b2
                                try clear c28
                                try clear c28b0
                                try clear c28b1
                                try clear c28b2
                                try clear c37
                                try clear c39
                                try clear c41
                                try clear c41b0
                                try clear c43
                                try clear c43b0
                                try clear c43b1
                                try clear c47
                                try clear c48
                                try clear c48b0
                                try clear c51
                                try clear c52
                                try clear c54
                                try clear c54b0
                                try clear c54b1
                                try clear c54b2
                                try clear p64
                                try clear c79
                                try clear c79b0
                                try clear c79b1
                                try clear c79b2
                                try clear c81
                                try clear c82
                                try clear c82b0
                                try clear c82b1
                                try clear c82b2
                                try clear c92
                                try clear c94
                                try clear c98
                                try clear c98b0
                                try clear c99
                                try clear c99b0
                                try clear c99b1
                                try clear p2
                                try clear p6
                                try clear p64
                                obtain ⟨x216_5, rfl, HA, HK5, HO_22, HO_26, HO_28, HO_214, HB⟩ := hrel
                                cases gk with
                                | zero => exact absurd HA.out (by simp [laws_FnRotationsGood.l1])
                                | succ k5 =>
                                  have H := HA.out
                                  clear HA
                                  simp only [laws_FnRotationsGood.l1] at H
                                  by_cases c101 : x216_5 < (t372.length : Int)
                                  · rw [if_pos c101] at H
                                    have c101b0 : decide (x216_5 < (t372.length : Int)) = true := decide_eq_true c101
                                    clear c101
                                    by_cases c102 : 0 ≤ x216_5
                                    · rw [if_pos c102] at H
                                      have c102b0 : decide (0 ≤ x216_5) = true := decide_eq_true c102
                                      clear c102
                                      by_cases c103 : x216_5 < (t372.length : Int)
                                      · rw [if_pos c103] at H
                                        have c103b0 : decide (x216_5 < (t372.length : Int)) = true := decide_eq_true c103
                                        clear c103
                                        by_cases c104 : 0 ≤ (rd t372 x216_5)
                                        · rw [if_pos c104] at H
                                          have c104b0 : decide (0 ≤ (rd t372 x216_5)) = true := decide_eq_true c104
                                          clear c104
                                          by_cases c105 : (rd t372 x216_5) < (t370.size : Int)
                                          · rw [if_pos c105] at H
                                            have c105b0 : decide ((rd t372 x216_5) < (t370.size : Int)) = true := decide_eq_true c105
                                            clear c105
                                            by_cases c107 : (bt t370 (rd t372 x216_5)) = 85
                                            · rw [if_pos c107] at H
                                              have c107b0 : ((bt t370 (rd t372 x216_5)) == 85) = true := beq_iff_eq.mpr c107
                                              have c107b1 : ((bt t370 (rd t372 x216_5)) != 85) = false := bne_eq_false_iff_eq.mpr c107
                                              clear c107
                                              by_cases c108 : x216_5 > 0
                                              · rw [if_pos c108] at H
                                                have c108b0 : decide (0 < x216_5) = true := decide_eq_true c108
                                                clear c108
                                                obtain ⟨ji109, hji109⟩ : ∃ j_ : Int, (wrap64 (x216_5 - 1)) = j_ := ⟨_, rfl⟩
                                                replace H : (if 0 ≤ (ji109) then (if (ji109) < (t372.length : Int) then (if (rd t372 (ji109)) ≥ (rd t372 x216_5) then (some false) else (laws_FnRotationsGood.l1 k5 t370 t372 t380 t381 t384 t385 t372 (t372.length : Int) (wrap64 (x216_5 + 1)))) else (none)) else (none)) = some true := by first | (rw [hji109] at H; exact H) | (simp only [hji109] at H ⊢; exact H)
                                                have hji109w : (IntKind.i64.wrap (x216_5 - 1)) = ji109 := (i64_w _).trans hji109
                                                by_cases c110 : 0 ≤ (ji109)
                                                · rw [if_pos c110] at H
                                                  have c110b0 : decide (0 ≤ (ji109)) = true := decide_eq_true c110
                                                  clear c110
                                                  by_cases c111 : (ji109) < (t372.length : Int)
                                                  · rw [if_pos c111] at H
                                                    have c111b0 : decide ((ji109) < (t372.length : Int)) = true := decide_eq_true c111
                                                    clear c111
                                                    by_cases c112 : (rd t372 (ji109)) ≥ (rd t372 x216_5)
                                                    · rw [if_pos c112] at H
                                                      have c112b0 : decide ((rd t372 x216_5) ≤ (rd t372 (ji109))) = true := decide_eq_true c112
                                                      clear c112
                                                      (first | exact absurd H (by simp; done) | exact absurd H laws_FnRotationsGood.j0_no | exact absurd H laws_FnRotationsGood.j5_no | exact absurd H laws_FnRotationsGood.j2_no)
                                                    · rw [if_neg c112] at H
                                                      have c112b0 : decide ((rd t372 x216_5) ≤ (rd t372 (ji109))) = false := decide_eq_false c112
                                                      clear c112
                                                      have H' := Aside0.mk H
                                                      clear H
                                                      have p396 : 0 ≤ (x216_5 : Int) := of_decide_eq_true (by first | (with_reducible assumption) | assumption)
                                                      have q396 : x216_5 < (t372.length : Int) := of_decide_eq_true (by first | (with_reducible assumption) | assumption)
                                                      obtain ⟨ad396, e396, hx396_0⟩ := Kd.at_int (Kd.R_reads' HO_214.out).2.2 x216_5 p396 q396
                                                      cases e396
                                                      replace p396 := eq_true p396
                                                      replace q396 := eq_true q396
                                                      have p106 : 0 ≤ ((rd t372 x216_5) : Int) := of_decide_eq_true (by first | (with_reducible assumption) | assumption)
                                                      have q106 : (rd t372 x216_5) < (t370.size : Int) := of_decide_eq_true (by first | (with_reducible assumption) | assumption)
                                                      have hx106 := bt_at t370 (rd t372 x216_5)
                                                      replace p106 := eq_true p106
                                                      replace q106 := eq_true q106
                                                      have p397 : 0 ≤ ((ji109) : Int) := of_decide_eq_true (by first | (with_reducible assumption) | assumption)
                                                      have q397 : (ji109) < (t372.length : Int) := of_decide_eq_true (by first | (with_reducible assumption) | assumption)
                                                      obtain ⟨ad397, e397, hx397_0⟩ := Kd.at_int (Kd.R_reads' HO_22.out).2.2 (ji109) p397 q397
                                                      obtain rfl : ad396 = ad397 := (by injection e397)
                                                      replace p397 := eq_true p397
                                                      replace q397 := eq_true q397
                                                      go_wp2
                                                      go_roundg k5
                                                      case measure => have := HJ9.out; have := HJ37.out; have := HJ70.out; have := HJ96.out; have := HK5.out; omega
                                                      case rel => exact ⟨(wrap64 (x216_5 + 1)), (by first | rfl | (simp; done) | (simp [*]; done)), H', ⟨by have := HJ9.out; have := HJ37.out; have := HJ70.out; have := HJ96.out; have := HK5.out; omega⟩, ⟨by (with_reducible repeat (first | apply Kd.R_alloc | apply Kd.R_drewN | apply Kd.R_drew)); exact HO_22.out⟩, ⟨by (with_reducible repeat (first | apply Kd.R_alloc | apply Kd.R_drewN | apply Kd.R_drew)); exact HO_26.out⟩, ⟨by (with_reducible repeat (first | apply Kd.R_alloc | apply Kd.R_drewN | apply Kd.R_drew)); exact HO_28.out⟩, ⟨by (with_reducible repeat (first | apply Kd.R_alloc | apply Kd.R_drewN | apply Kd.R_drew)); exact HO_214.out⟩, ⟨by repeat (first | (with_reducible first | exact HB.out | apply below_alloc | apply pw_below_drewN | apply below_drew1) | exact HB.out)⟩⟩
                                                  · rw [if_neg c111] at H
                                                    exact absurd H (by simp)
                                                · rw [if_neg c110] at H
                                                  exact absurd H (by simp)
                                              · rw [if_neg c108] at H
                                                have c108b0 : decide (0 < x216_5) = false := decide_eq_false c108
                                                clear c108
                                                have H' := Aside0.mk H
                                                clear H
                                                have p396 : 0 ≤ (x216_5 : Int) := of_decide_eq_true (by first | (with_reducible assumption) | assumption)
                                                have q396 : x216_5 < (t372.length : Int) := of_decide_eq_true (by first | (with_reducible assumption) | assumption)
                                                obtain ⟨ad396, e396, hx396_0⟩ := Kd.at_int (Kd.R_reads' HO_214.out).2.2 x216_5 p396 q396
                                                cases e396
                                                replace p396 := eq_true p396
                                                replace q396 := eq_true q396
                                                have p106 : 0 ≤ ((rd t372 x216_5) : Int) := of_decide_eq_true (by first | (with_reducible assumption) | assumption)
                                                have q106 : (rd t372 x216_5) < (t370.size : Int) := of_decide_eq_true (by first | (with_reducible assumption) | assumption)
                                                have hx106 := bt_at t370 (rd t372 x216_5)
                                                replace p106 := eq_true p106
                                                replace q106 := eq_true q106
                                                go_wp2
                                                go_roundg k5
                                                case measure => have := HJ9.out; have := HJ37.out; have := HJ70.out; have := HJ96.out; have := HK5.out; omega
                                                case rel => exact ⟨(wrap64 (x216_5 + 1)), (by first | rfl | (simp; done) | (simp [*]; done)), H', ⟨by have := HJ9.out; have := HJ37.out; have := HJ70.out; have := HJ96.out; have := HK5.out; omega⟩, ⟨by (with_reducible repeat (first | apply Kd.R_alloc | apply Kd.R_drewN | apply Kd.R_drew)); exact HO_22.out⟩, ⟨by (with_reducible repeat (first | apply Kd.R_alloc | apply Kd.R_drewN | apply Kd.R_drew)); exact HO_26.out⟩, ⟨by (with_reducible repeat (first | apply Kd.R_alloc | apply Kd.R_drewN | apply Kd.R_drew)); exact HO_28.out⟩, ⟨by (with_reducible repeat (first | apply Kd.R_alloc | apply Kd.R_drewN | apply Kd.R_drew)); exact HO_214.out⟩, ⟨by repeat (first | (with_reducible first | exact HB.out | apply below_alloc | apply pw_below_drewN | apply below_drew1) | exact HB.out)⟩⟩
                                            · rw [if_neg c107] at H
                                              have c107b0 : ((bt t370 (rd t372 x216_5)) == 85) = false := beq_eq_false_iff_ne.mpr c107
                                              have c107b1 : ((bt t370 (rd t372 x216_5)) != 85) = true := bne_iff_ne.mpr c107
                                              (first | exact absurd H (by simp; done) | exact absurd H laws_FnRotationsGood.j0_no | exact absurd H laws_FnRotationsGood.j5_no | exact absurd H laws_FnRotationsGood.j2_no)
                                          · rw [if_neg c105] at H
                                            exact absurd H (by simp)
                                        · rw [if_neg c104] at H
                                          exact absurd H (by simp)
                                      · rw [if_neg c103] at H
                                        exact absurd H (by simp)
                                    · rw [if_neg c102] at H
                                      exact absurd H (by simp)
                                  · rw [if_neg c101] at H
                                    have c101b0 : decide (x216_5 < (t372.length : Int)) = false := decide_eq_false c101
                                    clear c101
                                    have H' := Aside0.mk H
                                    clear H
                                    go_wp2
                                    go_meet
                                    case rel => exact ⟨_, H', ⟨by have := HJ9.out; have := HJ37.out; have := HJ70.out; have := HJ96.out; have := HK5.out; first | omega | exact Nat.le_refl _⟩, ⟨by (with_reducible repeat (first | apply Kd.R_alloc | apply Kd.R_drewN | apply Kd.R_drew)); exact Kd.R_mono HO_26.out (fun _ hk => hk.2.1)⟩, ⟨by (with_reducible repeat (first | apply Kd.R_alloc | apply Kd.R_drewN | apply Kd.R_drew)); exact Kd.R_mono HO_28.out (fun _ hk => hk.2.1)⟩, ⟨by repeat (first | (with_reducible first | exact HB.out | apply below_alloc | apply pw_below_drewN | apply below_drew1) | exact HB.out)⟩⟩
                            · rw [if_neg c99] at H
                              have c99b0 : ((t372.length : Int) == x32_96) = false := beq_eq_false_iff_ne.mpr c99
                              have c99b1 : ((t372.length : Int) != x32_96) = true := bne_iff_ne.mpr c99
                              (first | exact absurd H (by simp; done) | exact absurd H laws_FnRotationsGood.j0_no | exact absurd H laws_FnRotationsGood.j5_no | exact absurd H laws_FnRotationsGood.j2_no)
                      · replace c94 := Bool.eq_false_iff.mpr c94
                        subst c94
                        rw [if_neg (show ¬ (false = true) by decide)] at H
                        have H' := Aside0.mk H
                        clear H
                        go_wp2
                        go_meet
                        case rel => exact ⟨_, H', ⟨by have := HJ9.out; have := HJ37.out; have := HJ70.out; first | omega | exact Nat.le_refl _⟩, ⟨by (with_reducible repeat (first | apply Kd.R_alloc | apply Kd.R_drewN | apply Kd.R_drew)); exact Kd.R_mono HO_26.out (fun _ hk => hk.2)⟩, ⟨by (with_reducible repeat (first | apply Kd.R_alloc | apply Kd.R_drewN | apply Kd.R_drew)); exact Kd.R_mono HO_28.out (fun _ hk => hk.2)⟩, ⟨by repeat (first | (with_reducible first | exact HB.out | apply below_alloc | apply pw_below_drewN | apply below_drew1) | exact HB.out)⟩⟩
                    case rest =>
                      clear HC93
                      try clear c1
                      try clear p1
                      try clear q1
                      try clear hx1
                      try clear c2
                      try clear p2
                      try clear c3
                      try clear p3
                      try clear q3
                      try clear hx3
                      try clear c4
                      try clear c5
                      try clear c6
                      try clear p6
                      try clear c7
                      try clear c8
                      try clear c9
                      try clear c10
                      try clear p10
                      try clear q10
                      try clear hx10
                      try clear c11
                      try clear c14
                      try clear c15
                      try clear c15b0
                      try clear c15b1
                      try clear c15b2
                      try clear c17
                      try clear c18
                      try clear c18b0
                      try clear c18b1
                      try clear c18b2
                      try clear c19
                      try clear c20
                      try clear c21
                      try clear c21b0
                      try clear c21b1
                      try clear c22
                      try clear c23
                      try clear c23b0
                      try clear c23b1
                      try clear c23b2
                      try clear c28
                      try clear c28b0
                      try clear c28b1
                      try clear c28b2
                      try clear c37
                      try clear c39
                      try clear p39
                      try clear q39
                      try clear hx39
                      try clear c41
                      try clear c41b0
                      try clear c43
                      try clear c43b0
                      try clear c43b1
                      try clear c47
                      try clear c48
                      try clear c48b0
                      try clear c51
                      try clear c52
                      try clear c54
                      try clear c54b0
                      try clear c54b1
                      try clear c54b2
                      try clear p64
                      try clear c79
                      try clear c79b0
                      try clear c79b1
                      try clear c79b2
                      try clear c81
                      try clear c82
                      try clear c82b0
                      try clear c82b1
                      try clear c82b2
                      try clear c92
                      try clear c94
                      try clear c98
                      try clear c98b0
                      try clear c99
                      try clear c99b0
                      try clear c99b1
                      try clear c101
                      try clear c101b0
                      try clear c102
                      try clear c102b0
                      try clear c103
                      try clear c103b0
                      try clear c104
                      try clear c104b0
                      try clear c105
                      try clear c105b0
                      try clear p106
                      try clear q106
                      try clear hx106
                      try clear c107
                      try clear c107b0
                      try clear c107b1
                      try clear c108
                      try clear c108b0
                      try clear c110
                      try clear c110b0
                      try clear c111
                      try clear c111b0
                      try clear c112
                      try clear c112b0
                      try clear hx396_0
                      try clear hx397_0
                      try clear p106
                      try clear p2
                      try clear p396
                      try clear p397
                      try clear p6
                      try clear p64
                      try clear q106
                      try clear q396
                      try clear q397
                      obtain ⟨kq, HA, HJ92, HO_26, HO_28, HB⟩ := hcut
                      cases kq with
                      | zero => exact absurd HA.out (by simp [laws_FnRotationsGood.j8])
                      | succ kj92 =>
                        have H := HA.out
                        clear HA
                        simp only [laws_FnRotationsGood.j8] at H
                        by_cases c114 : t385 = true
                        · subst c114
                          rw [if_pos rfl] at H
                          by_cases c115 : (t380.length : Int) = 0
                          · rw [if_pos c115] at H
                            exact absurd H (by simp)
                          · rw [if_neg c115] at H
                            have c115b0 : ((t380.length : Int) == 0) = false := beq_eq_false_iff_ne.mpr c115
                            have c115b1 : ((t380.length : Int) != 0) = true := bne_iff_ne.mpr c115
                            have c115b2 : ¬ (t380 = []) := fun h_ => c115 (by rw [h_]; rfl)
                            replace H := Option.bind_eq_some_iff.mp H
                            obtain ⟨⟨t398, t399⟩, A1160, H⟩ := H
                            replace H : (if t399 = true then ((laws_xSame.f kj92 t398 t380).bind fun t402 => (some t402)) else (some false)) = some true := H
                            have A116 := Aside0.mk A1160
                            clear A1160
                            by_cases c117 : t399 = true
                            · subst c117
                              rw [if_pos rfl] at H
                              replace H := Option.bind_eq_some_iff.mp H
                              obtain ⟨t402, A1180, H⟩ := H
                              replace H : (some t402) = some true := H
                              have A118 := Aside0.mk A1180
                              clear A1180
                              obtain rfl := Option.some.inj H
                              obtain ⟨Ao119, co119, eo119⟩ := Kd.R_slice HO_28.out
                              subst eo119
                              go_wp2_with (first | ((with_reducible refine gate_callee (f := 14) rfl ?_); refine goesL_ (some 249) rfl rfl Tryd.func14 (by kernel_rfl) rfl #[.slice Ao119 t384.length co119, .int .i64 (Int.tmod (wrap64 ((t380.length : Int) - t381)) (t380.length : Int))] rfl (by (try simp only [List.map_toArray, List.map_cons, List.map_nil]); first | done | rfl | (simp only [List.length_drop, List.length_take]; rfl)) ?_; (with_reducible refine (impl_RotateList.calls kj92 _ _ t384 (Int.tmod (wrap64 ((t380.length : Int) - t381)) (t380.length : Int)) t398 true _ ?side1 ?side2 A116.out).mono ?_); (case side1 => repeat (first | exact (Kd.R_reads' HO_28.out).2.2 | (with_reducible refine Kd.C_alloc ?_ _) | (with_reducible refine Kd.C_drewN ?_ _) | (with_reducible refine Kd.C_drew ?_))); (case side2 => exact (Kd.R_reads' HO_28.out).2.1); rintro e w120 ⟨v400, rfl, ho0, hb⟩; refine ⟨_, rfl, ?_⟩; have n0_ := Aside0.mk (Kd.R_elder' (by (with_reducible repeat (first | apply Kd.R_alloc | apply Kd.R_drewN | apply Kd.R_drew)); exact HO_26.out) (Kd.R_base ho0) hb); have n1_ := Aside0.mk (Kd.R_elder' (by (with_reducible repeat (first | apply Kd.R_alloc | apply Kd.R_drewN | apply Kd.R_drew)); exact HO_28.out) (Kd.R_base ho0) hb); have n2_ := Aside0.mk (Kd.R_lower (Kd.R_new' (Kd.R_new' ho0 (Kd.R_lt (by (with_reducible repeat (first | apply Kd.R_alloc | apply Kd.R_drewN | apply Kd.R_drew)); exact HO_26.out))) (Kd.R_lt (by (with_reducible repeat (first | apply Kd.R_alloc | apply Kd.R_drewN | apply Kd.R_drew)); exact HO_28.out))) (below_size (by repeat (first | (with_reducible first | exact HB.out | apply below_alloc | apply pw_below_drewN | apply below_drew1) | exact HB.out)))); have n3_ := Aside0.mk (below_step (by repeat (first | (with_reducible first | exact HB.out | apply below_alloc | apply pw_below_drewN | apply below_drew1) | exact HB.out)) hb); clear HO_26; clear HO_28; clear HB; have HO_26 := n0_; have HO_28 := n1_; have HO401 := n2_; have HB := n3_; clear n0_ n1_ n2_ n3_; (try clear hb); (try clear hb2); (try clear hk); (try clear hi); (try clear ho0); obtain ⟨Ao121, co121, eo121⟩ := Kd.R_slice HO401.out; subst eo121) | (go_at_call 10; (with_reducible refine (laws_xSame.calls kj92 _ _ t398 _ _ t380 true _ ?side1 ?side2 ?side3 ?side4 A118.out).mono ?_); (case side1 => repeat (first | exact (Kd.R_reads' HO401.out).2.2 | (with_reducible refine Kd.C_alloc ?_ _) | (with_reducible refine Kd.C_drewN ?_ _) | (with_reducible refine Kd.C_drew ?_))); (case side2 => exact (Kd.R_reads' HO401.out).2.1); (case side3 => repeat (first | exact (Kd.R_reads' HO_26.out).2.2 | (with_reducible refine Kd.C_alloc ?_ _) | (with_reducible refine Kd.C_drewN ?_ _) | (with_reducible refine Kd.C_drew ?_))); (case side4 => exact (Kd.R_reads' HO_26.out).2.1); rintro e w' ⟨rfl, ⟨nd, rfl⟩⟩))
                              go_ret
                              exact ⟨by first | rfl | (simp [errW_none, errW_some] <;> rfl) | (simp [*, errW_none, errW_some] <;> rfl), by repeat (first | (with_reducible first | exact HB.out | apply below_alloc | apply pw_below_drewN | apply below_drew1) | exact HB.out)⟩
                            · replace c117 := Bool.eq_false_iff.mpr c117
                              subst c117
                              have H1 : (some false) = some true := by rw [if_neg (show ¬ (false = true) by decide)] at H; exact H
                              clear H
                              have H := H1
                              clear H1
                              (first | exact absurd H (by simp; done) | exact absurd H laws_FnRotationsGood.j0_no | exact absurd H laws_FnRotationsGood.j5_no | exact absurd H laws_FnRotationsGood.j2_no)
                        · replace c114 := Bool.eq_false_iff.mpr c114
                          subst c114
                          go_wp2
                          go_ret
                          exact ⟨by first | rfl | (simp [errW_none, errW_some] <;> rfl) | (simp [*, errW_none, errW_some] <;> rfl), by repeat (first | (with_reducible first | exact HB.out | apply below_alloc | apply pw_below_drewN | apply below_drew1) | exact HB.out)⟩

/-- THE ONE PURE STATEMENT of laws_FnRotationsGood: yours. -/
def laws_FnRotationsGood.Pure : Prop := ∀ (l0 : List Int) (l1 : List Int), l0.length ≤ maxLen → l0.length * 1 ≤ 140737488351232 → (∀ x ∈ l0, (Lit.int .u8 x).wf = true) → l1.length ≤ maxLen → l1.length * 1 ≤ 140737488351232 → (∀ x ∈ l1, (Lit.int .u8 x).wf = true) → ∃ k, laws_FnRotationsGood.f k l0 l1 = some true
theorem laws_FnRotationsGood.walk (P : laws_FnRotationsGood.Pure) (a0 : Option Addr) (len0 cap0 : Nat) (z0 : List Int) (a1 : Option Addr) (len1 cap1 : Nat) (z1 : List Int) (w : World) (w0 : (a0 = none ∧ len0 = 0 ∧ cap0 = 0 ∧ z0 = []) ∨ ∃ x, a0 = some x ∧ len0 ≤ cap0 ∧ cap0 ≤ maxLen ∧ z0.length = cap0 ∧ (∀ i, i < z0.length → w.cell? (x.add i) = some (.int .u8 (z0.getD i 0))) ∧ ∀ n ∈ z0, (Lit.int .u8 n).wf = true) (y0 : len0 * 1 ≤ 140737488351232) (w1 : (a1 = none ∧ len1 = 0 ∧ cap1 = 0 ∧ z1 = []) ∨ ∃ x, a1 = some x ∧ len1 ≤ cap1 ∧ cap1 ≤ maxLen ∧ z1.length = cap1 ∧ (∀ i, i < z1.length → w.cell? (x.add i) = some (.int .u8 (z1.getD i 0))) ∧ ∀ n ∈ z1, (Lit.int .u8 n).wf = true) (y1 : len1 * 1 ≤ 140737488351232) :
    Calls Tryd.prog 3 #[.slice a0 len0 cap0, .slice a1 len1 cap1] w fun e w' => e = .returned (.bool true) ∧ Below w.heap.size w w' := by
  obtain ⟨l0, rfl, hr0, hm0, hw0, hc0⟩ := ReadsInt.ofRowC w0
  obtain ⟨l1, rfl, hr1, hm1, hw1, hc1⟩ := ReadsInt.ofRowC w1
  obtain ⟨k, h⟩ := P l0 l1 hm0 y0 hw0 hm1 y1 hw1
  refine (laws_FnRotationsGood.calls k _ _ l0 _ _ l1 w (Kd.C_of_reads (d := (0 : Int)) (h1 := fun _ => rfl) hr0) hc0 (Kd.C_of_reads (d := (0 : Int)) (h1 := fun _ => rfl) hr1) hc1 h).mono ?_
  rintro e w' ⟨rfl, hd⟩
  exact ⟨rfl, hd⟩

end Go.Proofs.YtfmoaonnknpobaaDoor.QFnRotationsGood
