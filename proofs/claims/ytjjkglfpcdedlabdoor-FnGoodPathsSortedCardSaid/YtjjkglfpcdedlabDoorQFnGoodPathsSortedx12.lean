/- Written by programs of this repo (xprint, lawcut, lawsplit); Lean checks all of it. -/
import Derived.Test.YtjjkglfpcdedlabDoorQFnGoodPathsSortedx0
import Derived.Test.YtjjkglfpcdedlabDoorQFnGoodPathsSortedx1
import Derived.Test.YtjjkglfpcdedlabDoorQFnGoodPathsSortedx2
import Derived.Test.YtjjkglfpcdedlabDoorQFnGoodPathsSortedx3
import Derived.Test.YtjjkglfpcdedlabDoorQFnGoodPathsSortedx4
import Derived.Test.YtjjkglfpcdedlabDoorQFnGoodPathsSortedx5
import Derived.Test.YtjjkglfpcdedlabDoorQFnGoodPathsSortedx6
import Derived.Test.YtjjkglfpcdedlabDoorQFnGoodPathsSortedx7
import Derived.Test.YtjjkglfpcdedlabDoorQFnGoodPathsSortedx9
import Derived.Test.YtjjkglfpcdedlabDoorQFnGoodPathsSortedx10
import Derived.Test.YtjjkglfpcdedlabDoorQFnGoodPathsSortedx11
namespace Go.Proofs.YtjjkglfpcdedlabDoor.QFnGoodPathsSorted
open Go.RowKit Go.Proofs.YtjjkglfpcdedlabDoorZ Go.Proofs.YtjjkglfpcdedlabDoorZm Go.Maps Go.Proofs.YtjjkglfpcdedlabDoorZc Go.Maps Go.Proofs.YtjjkglfpcdedlabDoorW.PrintWords Go.Proofs.YtjjkglfpcdedlabDoorW.PrintLast Go.Proofs.YtjjkglfpcdedlabDoorW.PrintMore
attribute [local go_sem] max2_int min2_int max_two min_two max_three min_three max_four min_four   -- for this text's walks alone
set_option linter.unusedVariables false
set_option linter.unusedSimpArgs false

theorem wp_cond_no {P : Program} {t : Operand} {A : Code} {Q : Exit → Act → World → Prop} {a : Act} {w : World} (h : a.eval t = .bool false) (hQ : Q .normal a w) : Code.wp P (.cond t A .skip) Q a w := wp_cond_false h (wp_skip hQ)
def sk : Nat → Code → Code
  | 0, c => c
  | n + 1, .seq _ b => sk n b
  | _ + 1, c => c
set_option maxHeartbeats 8000000 in
set_option maxRecDepth 1000000 in
theorem law_path (k : Nat) (A0 : Option Addr) (c0 : Nat) (l0 : List Int) (A1 : Option Addr) (c1 : Nat) (l1 : List Int) (w wc : World) (HR0 : Aside0 (Kd.C (Kd.int .u8) w A0 l0.length l0)) (HC0 : Aside0 (l0.length ≤ c0)) (HR1 : Aside0 (Kd.C (Kd.int .u8) w A1 l1.length l1)) (HC1 : Aside0 (l1.length ≤ c1)) (HJ21 : Aside0 (0 ≤ k)) (kj21 : Nat) (hcut : ∃ (kq : Nat), Aside0 (laws_FnGoodPathsSorted.j6 kq l1 = some true) ∧ Aside0 (kq ≤ kj21) ∧ Aside0 (Below w.heap.size w wc)) (u2 u3 u4 u5 u6 u7 u8 u9 u10 u11 u12 u13 u14 u15 u16 u17 u18 u19 u20 u21 u22 u23 u24 u25 u26 u27 u28 u29 u30 u31 u32 u33 u34 u35 u36 u37 u38 u39 u40 u41 u42 u43 u44 u45 u46 u47 u48 u49 u50 u51 u52 u53 u54 u55 u56 u57 u58 u59 u60 u61 u62 u63 u64 u65 u66 u67 u68 u69 u70 u71 u72 u73 u74 u75 u76 u77 u78 u79 u80 u81 u82 u83 u84 u85 u86 u87 u88 u89 u90 u91 u92 u93 u94 u95 u96 u97 u98 u99 u100 u101 u102 u103 u104 u105 u106 u107 u108 u109 u110 u111 u112 u113 u114 u115 u116 u117 u118 u119 u120 u121 u122 u123 u124 u125 u126 u127 u128 u129 u130 u131 u132 u133 u134 u135 u136 u137 u138 u139 u140 u141 u142 u143 u144 u145 u146 u147 u148 u149 u150 u151 u152 u153 u154 u155 u156 u157 u158 u159 u160 u161 u162 u163 u164 u165 u166 u167 u168 u169 u170 u171 u172 u173 u174 u175 u176 u177 u178 u179 u180 u181 u182 u183 u184 u185 u186 u187 u188 u189 u190 u191 u192 u193 u194 u195 u196 u197 u198 u199 u200 u201 u202 u203 u204 u205 u206 u207 u208 u209 u210 u211 u212 u213 u214 u215 u216 u217 u218 u219 u220 u221 u222 u223 u224 u225 u226 u227 u228 u229 u230 u231 u232 u233 u234 u235 u236 u237 u238 u239 u240 u241 u242 u243 u244 u245 u246 u247 u248 u249 u250 u251 u252 u253 u254 u255 u256 u257 u258 u259 u260 u261 u262 u263 u264 u265 u266 u267 u268 u269 u270 u271 u272 u273 u274 u275 u276 u277 u278 u279 u280 u281 u282 u283 u284 u285 u286 u287 u288 u289 u290 u291 u292 u293 u294 u295 u296 u297 u298 u299 u300 u301 u302 u303 u304 u305 u306 u307 u308 u309 u310 u311 u312 u313 u314 u315 u316 u317 u318 u319 u320 u321 u322 u323 u324 u325 u326 u327 u328 u329 u330 u331 u332 u333 u334 u335 u336 u337 u338 u339 u340 u341 u342 u343 u344 u345 u346 u347 u348 u349 u350 u351 u352 u353 u354 u355 u356 u357 u358 u359 u360 u361 u362 u363 u364 u365 u366 u367 u368 u369 u370 u371 u372 u373 u374 u375 u376 u377 u378 u379 u380 u381 u382 u383 u384 u385 u386 u387 u388 u389 u390 u391 u392 u393 u394 u395 u396 u397 u398 u399 u400 u401 u402 u403 u404 u405 u406 u407 u408 u409 u410 u411 u412 u413 u414 u415 u416 u417 u418 u419 u420 u421 u422 u423 u424 u425 u426 u427 u428 u429 u430 u431 u432 u433 u434 u435 u436 u437 u438 u439 u440 u441 u442 u443 u444 u445 u446 u447 u448 u449 u450 u451 u452 u453 u454 u455 u456 u457 u458 u459 u460 u461 u462 u463 u464 u465 u466 u467 u468 u469 u470 u471 u472 u473 u474 u475 u476 u477 u478 u479 u480 u481 u482 u483 u484 u485 u486 : Value) :
    Code.wp Tryd.prog (sk 21 (Tryd.f3.body.getD .skip)) (bodyPost Tryd.prog Tryd.f3 (fun e w' => e = .returned (.bool true) ∧ Below w.heap.size w w')) ⟨#[.slice A0 l0.length c0, .slice A1 l1.length c1, u2, u3, u4, u5, u6, u7, u8, u9, u10, u11, u12, u13, u14, u15, u16, u17, u18, u19, u20, u21, u22, u23, u24, u25, u26, u27, u28, u29, u30, u31, u32, u33, u34, u35, u36, u37, u38, u39, u40, u41, u42, u43, u44, u45, u46, u47, u48, u49, u50, u51, u52, u53, u54, u55, u56, u57, u58, u59, u60, u61, u62, u63, u64, u65, u66, u67, u68, u69, u70, u71, u72, u73, u74, u75, u76, u77, u78, u79, u80, u81, u82, u83, u84, u85, u86, u87, u88, u89, u90, u91, u92, u93, u94, u95, u96, u97, u98, u99, u100, u101, u102, u103, u104, u105, u106, u107, u108, u109, u110, u111, u112, u113, u114, u115, u116, u117, u118, u119, u120, u121, u122, u123, u124, u125, u126, u127, u128, u129, u130, u131, u132, u133, u134, u135, u136, u137, u138, u139, u140, u141, u142, u143, u144, u145, u146, u147, u148, u149, u150, u151, u152, u153, u154, u155, u156, u157, u158, u159, u160, u161, u162, u163, u164, u165, u166, u167, u168, u169, u170, u171, u172, u173, u174, u175, u176, u177, u178, u179, u180, u181, u182, u183, u184, u185, u186, u187, u188, u189, u190, u191, u192, u193, u194, u195, u196, u197, u198, u199, u200, u201, u202, u203, u204, u205, u206, u207, u208, u209, u210, u211, u212, u213, u214, u215, u216, u217, u218, u219, u220, u221, u222, u223, u224, u225, u226, u227, u228, u229, u230, u231, u232, u233, u234, u235, u236, u237, u238, u239, u240, u241, u242, u243, u244, u245, u246, u247, u248, u249, u250, u251, u252, u253, u254, u255, u256, u257, u258, u259, u260, u261, u262, u263, u264, u265, u266, u267, u268, u269, u270, u271, u272, u273, u274, u275, u276, u277, u278, u279, u280, u281, u282, u283, u284, u285, u286, u287, u288, u289, u290, u291, u292, u293, u294, u295, u296, u297, u298, u299, u300, u301, u302, u303, u304, u305, u306, u307, u308, u309, u310, u311, u312, u313, u314, u315, u316, u317, u318, u319, u320, u321, u322, u323, u324, u325, u326, u327, u328, u329, u330, u331, u332, u333, u334, u335, u336, u337, u338, u339, u340, u341, u342, u343, u344, u345, u346, u347, u348, u349, u350, u351, u352, u353, u354, u355, u356, u357, u358, u359, u360, u361, u362, u363, u364, u365, u366, u367, u368, u369, u370, u371, u372, u373, u374, u375, u376, u377, u378, u379, u380, u381, u382, u383, u384, u385, u386, u387, u388, u389, u390, u391, u392, u393, u394, u395, u396, u397, u398, u399, u400, u401, u402, u403, u404, u405, u406, u407, u408, u409, u410, u411, u412, u413, u414, u415, u416, u417, u418, u419, u420, u421, u422, u423, u424, u425, u426, u427, u428, u429, u430, u431, u432, u433, u434, u435, u436, u437, u438, u439, u440, u441, u442, u443, u444, u445, u446, u447, u448, u449, u450, u451, u452, u453, u454, u455, u456, u457, u458, u459, u460, u461, u462, u463, u464, u465, u466, u467, u468, u469, u470, u471, u472, u473, u474, u475, u476, u477, u478, u479, u480, u481, u482, u483, u484, u485, u486], []⟩ wc := by
  conv => arg 2; whnf
  obtain ⟨kq, HA, HJ245, HB⟩ := hcut
  cases kq with
  | zero => exact absurd HA.out (by simp [laws_FnGoodPathsSorted.j6])
  | succ kj245 =>
    have H := HA.out
    clear HA
    simp only [laws_FnGoodPathsSorted.j6] at H
    replace H := Option.bind_eq_some_iff.mp H
    obtain ⟨t451, A3340, H⟩ := H
    (try dsimp only at H)
    have A334 := Aside0.mk A3340
    clear A3340
    replace H := Option.bind_eq_some_iff.mp H
    obtain ⟨⟨t452, t453⟩, A3350, H⟩ := H
    (try dsimp only at H)
    have A335 := Aside0.mk A3350
    clear A3350
    replace H := Option.bind_eq_some_iff.mp H
    obtain ⟨⟨t454, t455⟩, A3360, H⟩ := H
    (try dsimp only at H)
    have A336 := Aside0.mk A3360
    clear A3360
    have HC337 := Aside0.mk H
    clear H
    go_upto_region 53 with (first | (go_at_call 28; (with_reducible refine (spec_DrawAreaIndex.calls kj245 _ _ l1 t451 _ ?side1 ?side2 A334.out).mono ?_); (case side1 => repeat (first | exact (Kd.C_below HR1.out HB.out) | (with_reducible refine Kd.C_alloc ?_ _) | (with_reducible refine Kd.C_drewN ?_ _) | (with_reducible refine Kd.C_drew ?_))); (case side2 => exact HC1.out); rintro e w338 ⟨rfl, hb⟩; have n0_ := Aside0.mk (below_step (by repeat (first | (with_reducible first | exact HB.out | apply below_alloc | apply pw_below_drewN | apply below_drew1) | exact HB.out)) hb); clear HB; have HB := n0_; clear n0_; (try clear hb); (try clear hb2); (try clear hk); (try clear hi)) | (go_at_call 29; (with_reducible refine (impl_AreaIndex.calls kj245 t451 t452 t453 _ A335.out).mono ?_); rintro e w339 ⟨rfl, hb⟩; have n0_ := Aside0.mk (below_step (by repeat (first | (with_reducible first | exact HB.out | apply below_alloc | apply pw_below_drewN | apply below_drew1) | exact HB.out)) hb); clear HB; have HB := n0_; clear n0_; (try clear hb); (try clear hb2); (try clear hk); (try clear hi)) | (go_at_call 30; (with_reducible refine (spec_AreaIndex.calls kj245 t451 t454 t455 _ A336.out).mono ?_); rintro e w340 ⟨rfl, hb⟩; have n0_ := Aside0.mk (below_step (by repeat (first | (with_reducible first | exact HB.out | apply below_alloc | apply pw_below_drewN | apply below_drew1) | exact HB.out)) hb); clear HB; have HB := n0_; clear n0_; (try clear hb); (try clear hb2); (try clear hk); (try clear hi)))
    repeat (go_quiet (first | (go_at_call 28; (with_reducible refine (spec_DrawAreaIndex.calls kj245 _ _ l1 t451 _ ?side1 ?side2 A334.out).mono ?_); (case side1 => repeat (first | exact (Kd.C_below HR1.out HB.out) | (with_reducible refine Kd.C_alloc ?_ _) | (with_reducible refine Kd.C_drewN ?_ _) | (with_reducible refine Kd.C_drew ?_))); (case side2 => exact HC1.out); rintro e w338 ⟨rfl, hb⟩; have n0_ := Aside0.mk (below_step (by repeat (first | (with_reducible first | exact HB.out | apply below_alloc | apply pw_below_drewN | apply below_drew1) | exact HB.out)) hb); clear HB; have HB := n0_; clear n0_; (try clear hb); (try clear hb2); (try clear hk); (try clear hi)) | (go_at_call 29; (with_reducible refine (impl_AreaIndex.calls kj245 t451 t452 t453 _ A335.out).mono ?_); rintro e w339 ⟨rfl, hb⟩; have n0_ := Aside0.mk (below_step (by repeat (first | (with_reducible first | exact HB.out | apply below_alloc | apply pw_below_drewN | apply below_drew1) | exact HB.out)) hb); clear HB; have HB := n0_; clear n0_; (try clear hb); (try clear hb2); (try clear hk); (try clear hi)) | (go_at_call 30; (with_reducible refine (spec_AreaIndex.calls kj245 t451 t454 t455 _ A336.out).mono ?_); rintro e w340 ⟨rfl, hb⟩; have n0_ := Aside0.mk (below_step (by repeat (first | (with_reducible first | exact HB.out | apply below_alloc | apply pw_below_drewN | apply below_drew1) | exact HB.out)) hb); clear HB; have HB := n0_; clear n0_; (try clear hb); (try clear hb2); (try clear hk); (try clear hi))); go_upto_region 53 with (first | (go_at_call 28; (with_reducible refine (spec_DrawAreaIndex.calls kj245 _ _ l1 t451 _ ?side1 ?side2 A334.out).mono ?_); (case side1 => repeat (first | exact (Kd.C_below HR1.out HB.out) | (with_reducible refine Kd.C_alloc ?_ _) | (with_reducible refine Kd.C_drewN ?_ _) | (with_reducible refine Kd.C_drew ?_))); (case side2 => exact HC1.out); rintro e w338 ⟨rfl, hb⟩; have n0_ := Aside0.mk (below_step (by repeat (first | (with_reducible first | exact HB.out | apply below_alloc | apply pw_below_drewN | apply below_drew1) | exact HB.out)) hb); clear HB; have HB := n0_; clear n0_; (try clear hb); (try clear hb2); (try clear hk); (try clear hi)) | (go_at_call 29; (with_reducible refine (impl_AreaIndex.calls kj245 t451 t452 t453 _ A335.out).mono ?_); rintro e w339 ⟨rfl, hb⟩; have n0_ := Aside0.mk (below_step (by repeat (first | (with_reducible first | exact HB.out | apply below_alloc | apply pw_below_drewN | apply below_drew1) | exact HB.out)) hb); clear HB; have HB := n0_; clear n0_; (try clear hb); (try clear hb2); (try clear hk); (try clear hi)) | (go_at_call 30; (with_reducible refine (spec_AreaIndex.calls kj245 t451 t454 t455 _ A336.out).mono ?_); rintro e w340 ⟨rfl, hb⟩; have n0_ := Aside0.mk (below_step (by repeat (first | (with_reducible first | exact HB.out | apply below_alloc | apply pw_below_drewN | apply below_drew1) | exact HB.out)) hb); clear HB; have HB := n0_; clear n0_; (try clear hb); (try clear hb2); (try clear hk); (try clear hi))))
    (try simp only [Act.put, List.setIfInBounds_toArray, List.set_cons_zero, List.set_cons_succ])
    go_cut [454] from 447 to 453 (fun v454 wc => ∃ (kq : Nat) (x454_336 : Bool), v454 = .bool x454_336 ∧ Aside0 (laws_FnGoodPathsSorted.j7 kq t451 t452 t453 x454_336 = some true) ∧ Aside0 (kq ≤ kj245) ∧ Aside0 (Below w.heap.size w wc))
    case first =>
      have H := HC337.out
      clear HC337
      by_cases c341 : (t453 != t455) = true
      · rw [if_pos c341] at H
        (first | exact absurd H (by simp; done) | exact absurd H laws_FnGoodPathsSorted.j0_no | exact absurd H laws_FnGoodPathsSorted.j7_no | exact absurd H laws_FnGoodPathsSorted.j1_no | exact absurd H laws_FnGoodPathsSorted.j4_no)
      · rw [if_neg c341] at H
        have c341b0 : (t453 != t455) = false := by simpa using c341
        (try (have c341b1 : decide (t453 = t455) = true := by simpa using c341))
        (try (have c341b2 : (t453 == t455) = true := by simpa using c341))
        clear c341
        (first | rw [c341b0] | (simp only [i64_w, i32_w]; rw [c341b0]) | skip)
        have H' := Aside0.mk H
        clear H
        go_wp2
        repeat (go_quiet (fail); try go_wp2)
        go_meet
        case rel => exact ⟨_, ((t452 != t454)), (by first | rfl | (simp; done) | (simp [*]; done)), H', ⟨by have := HJ21.out; have := HJ245.out; first | omega | exact Nat.le_refl _⟩, ⟨by repeat (first | (with_reducible first | exact HB.out | apply below_alloc | apply pw_below_drewN | apply below_drew1) | exact HB.out)⟩⟩
    case rest =>
      clear HC337
      try clear c1
      try clear c2
      try clear p2
      try clear c3
      try clear q3
      try clear c4
      try clear p4
      try clear q4
      try clear hx4
      try clear c5
      try clear c6
      try clear p6
      try clear c7
      try clear c8
      try clear c9
      try clear c10
      try clear c12
      try clear c13
      try clear c14
      try clear c15
      try clear c16
      try clear c24
      try clear c25
      try clear c28
      try clear c29
      try clear c30
      try clear c31
      try clear c32
      try clear q32
      try clear q33
      try clear c34
      try clear c38
      try clear c38b0
      try clear c38b1
      try clear c38b2
      try clear c40
      try clear c41
      try clear c41b0
      try clear c41b1
      try clear c41b2
      try clear p43
      try clear q43
      try clear hx43
      try clear p44
      try clear q44
      try clear hx44
      try clear c45
      try clear c46
      try clear c46b0
      try clear c46b1
      try clear c46b2
      try clear c52
      try clear c53
      try clear c53b0
      try clear c53b1
      try clear c53b2
      try clear c61
      try clear c62
      try clear c62b0
      try clear c62b1
      try clear c62b2
      try clear p64
      try clear c72
      try clear c73
      try clear c73b0
      try clear c73b1
      try clear c73b2
      try clear c84
      try clear c84b0
      try clear c84b1
      try clear c85
      try clear c85b0
      try clear c85b1
      try clear c85b2
      try clear c96
      try clear c96b0
      try clear c96b1
      try clear c97
      try clear c97b0
      try clear c97b1
      try clear c97b2
      try clear c108
      try clear c108b0
      try clear c108b1
      try clear c109
      try clear c109b0
      try clear c109b1
      try clear c109b2
      try clear c120
      try clear c120b0
      try clear c120b1
      try clear c120b2
      try clear c131
      try clear c131b0
      try clear c131b1
      try clear c131b2
      try clear c142
      try clear c142b0
      try clear c142b1
      try clear c142b2
      try clear c153
      try clear c153b0
      try clear c153b1
      try clear c153b2
      try clear c164
      try clear c164b0
      try clear c164b1
      try clear c164b2
      try clear c245
      try clear c247
      try clear c249
      try clear c249b0
      try clear c249b1
      try clear c250
      try clear c250b0
      try clear c250b1
      try clear c251
      try clear c251b0
      try clear c251b1
      try clear c253
      try clear c253b0
      try clear c253b1
      try clear c255
      try clear c255b0
      try clear c255b1
      try clear c257
      try clear c257b0
      try clear c257b1
      try clear c259
      try clear c259b0
      try clear c259b1
      try clear c286
      try clear c290
      try clear c290b0
      try clear c291
      try clear c291b0
      try clear c292
      try clear c292b0
      try clear c293
      try clear c293b0
      try clear c294
      try clear c294b0
      try clear c294b1
      try clear c296
      try clear c296b0
      try clear c297
      try clear c297b0
      try clear c298
      try clear c298b0
      try clear c300
      try clear c301
      try clear c301b0
      try clear c301b1
      try clear c302
      try clear c303
      try clear c303b0
      try clear c303b1
      try clear c304
      try clear c304b0
      try clear c304b1
      try clear c306
      try clear c306b0
      try clear c306b1
      try clear c308
      try clear c308b0
      try clear c309
      try clear c309b0
      try clear c310
      try clear c311
      try clear c311b0
      try clear c312
      try clear c312b0
      try clear c313
      try clear c313b0
      try clear c315
      try clear c315b0
      try clear c316
      try clear c316b0
      try clear c317
      try clear c317b0
      try clear c317b1
      try clear c319
      try clear c321
      try clear c321b0
      try clear c321b1
      try clear c322
      try clear c322b0
      try clear c322b1
      try clear c324
      try clear c324b0
      try clear c324b1
      try clear q327
      try clear q330
      try clear c341
      try clear c341b0
      try clear c341b1
      try clear c341b2
      try clear hx438_0
      try clear hx439_0
      try clear hx441_0
      try clear hx442_0
      try clear hx443_0
      try clear p2
      try clear p4
      try clear p43
      try clear p438
      try clear p439
      try clear p44
      try clear p441
      try clear p442
      try clear p443
      try clear p6
      try clear p64
      try clear q3
      try clear q32
      try clear q327
      try clear q33
      try clear q330
      try clear q4
      try clear q43
      try clear q438
      try clear q439
      try clear q44
      try clear q441
      try clear q442
      try clear q443
      obtain ⟨kq, x454_336, rfl, HA, HJ336, HB⟩ := hcut
      cases kq with
      | zero => exact absurd HA.out (by simp [laws_FnGoodPathsSorted.j7])
      | succ kj336 =>
        have H := HA.out
        clear HA
        simp only [laws_FnGoodPathsSorted.j7] at H
        by_cases c342 : x454_336 = true
        · subst c342
          have H1 : (some false) = some true := by rw [if_pos rfl] at H; exact H
          clear H
          have H := H1
          clear H1
          (first | exact absurd H (by simp; done) | exact absurd H laws_FnGoodPathsSorted.j0_no | exact absurd H laws_FnGoodPathsSorted.j7_no | exact absurd H laws_FnGoodPathsSorted.j1_no | exact absurd H laws_FnGoodPathsSorted.j4_no)
        · replace c342 := Bool.eq_false_iff.mpr c342
          subst c342
          rw [if_neg (show ¬ (false = true) by decide)] at H
          by_cases c343 : t453 = true
          · subst c343
            rw [if_pos rfl] at H
            replace H := Option.bind_eq_some_iff.mp H
            obtain ⟨⟨t456, t457⟩, A3440, H⟩ := H
            (try dsimp only at H)
            have A344 := Aside0.mk A3440
            clear A3440
            by_cases c345 : t457 = true
            · subst c345
              rw [if_pos rfl] at H
              by_cases c346 : t456 = (wrap64 ((wrap64 (2 * t452)) + (wrap64 ((t451.size : Int) / 2))))
              · rw [if_pos c346] at H
                have c346b0 : (t456 == (wrap64 ((wrap64 (2 * t452)) + (wrap64 ((t451.size : Int) / 2))))) = true := beq_iff_eq.mpr c346
                have c346b1 : (t456 != (wrap64 ((wrap64 (2 * t452)) + (wrap64 ((t451.size : Int) / 2))))) = false := bne_eq_false_iff_eq.mpr c346
                clear c346
                by_cases c347 : t452 < 0
                · rw [if_pos c347] at H
                  have c347b0 : decide (t452 < 0) = true := decide_eq_true c347
                  clear c347
                  (first | exact absurd H (by simp; done) | exact absurd H laws_FnGoodPathsSorted.j0_no | exact absurd H laws_FnGoodPathsSorted.j7_no | exact absurd H laws_FnGoodPathsSorted.j1_no | exact absurd H laws_FnGoodPathsSorted.j4_no)
                · rw [if_neg c347] at H
                  have c347b0 : decide (t452 < 0) = false := decide_eq_false c347
                  clear c347
                  by_cases c349 : t452 > (wrap64 (Int.tdiv (wrap64 ((wrap64 ((t451.size : Int) / 2)) * (wrap64 ((wrap64 ((t451.size : Int) / 2)) - 1)))) 2))
                  · rw [if_pos c349] at H
                    have c349b0 : decide ((wrap64 (Int.tdiv (wrap64 ((wrap64 ((t451.size : Int) / 2)) * (wrap64 ((wrap64 ((t451.size : Int) / 2)) - 1)))) 2)) < t452) = true := decide_eq_true c349
                    clear c349
                    (first | exact absurd H (by simp; done) | exact absurd H laws_FnGoodPathsSorted.j0_no | exact absurd H laws_FnGoodPathsSorted.j7_no | exact absurd H laws_FnGoodPathsSorted.j1_no | exact absurd H laws_FnGoodPathsSorted.j4_no)
                  · rw [if_neg c349] at H
                    have c349b0 : decide ((wrap64 (Int.tdiv (wrap64 ((wrap64 ((t451.size : Int) / 2)) * (wrap64 ((wrap64 ((t451.size : Int) / 2)) - 1)))) 2)) < t452) = false := decide_eq_false c349
                    clear c349
                    skip
                    go_wp2_with (first | (go_at_call 31; (with_reducible refine (impl_AreaOfPath.calls kj336 t451 t456 true _ A344.out).mono ?_); rintro e w351 ⟨rfl, hb⟩; have n0_ := Aside0.mk (below_step (by repeat (first | (with_reducible first | exact HB.out | apply below_alloc | apply pw_below_drewN | apply below_drew1) | exact HB.out)) hb); clear HB; have HB := n0_; clear n0_; (try clear hb); (try clear hb2); (try clear hk); (try clear hi)))
                    repeat (go_quiet (first | (go_at_call 31; (with_reducible refine (impl_AreaOfPath.calls kj336 t451 t456 true _ A344.out).mono ?_); rintro e w351 ⟨rfl, hb⟩; have n0_ := Aside0.mk (below_step (by repeat (first | (with_reducible first | exact HB.out | apply below_alloc | apply pw_below_drewN | apply below_drew1) | exact HB.out)) hb); clear HB; have HB := n0_; clear n0_; (try clear hb); (try clear hb2); (try clear hk); (try clear hi))); try go_wp2_with (first | (go_at_call 31; (with_reducible refine (impl_AreaOfPath.calls kj336 t451 t456 true _ A344.out).mono ?_); rintro e w351 ⟨rfl, hb⟩; have n0_ := Aside0.mk (below_step (by repeat (first | (with_reducible first | exact HB.out | apply below_alloc | apply pw_below_drewN | apply below_drew1) | exact HB.out)) hb); clear HB; have HB := n0_; clear n0_; (try clear hb); (try clear hb2); (try clear hk); (try clear hi))))
                    go_ret
                    exact ⟨by first | rfl | (simp [errW_none, errW_some] <;> rfl) | (simp [*, errW_none, errW_some] <;> rfl), by repeat (first | (with_reducible first | exact HB.out | apply below_alloc | apply pw_below_drewN | apply below_drew1) | exact HB.out)⟩
              · rw [if_neg c346] at H
                have c346b0 : (t456 == (wrap64 ((wrap64 (2 * t452)) + (wrap64 ((t451.size : Int) / 2))))) = false := beq_eq_false_iff_ne.mpr c346
                have c346b1 : (t456 != (wrap64 ((wrap64 (2 * t452)) + (wrap64 ((t451.size : Int) / 2))))) = true := bne_iff_ne.mpr c346
                (first | exact absurd H (by simp; done) | exact absurd H laws_FnGoodPathsSorted.j0_no | exact absurd H laws_FnGoodPathsSorted.j7_no | exact absurd H laws_FnGoodPathsSorted.j1_no | exact absurd H laws_FnGoodPathsSorted.j4_no)
            · replace c345 := Bool.eq_false_iff.mpr c345
              subst c345
              have H1 : (some false) = some true := by rw [if_neg (show ¬ (false = true) by decide)] at H; exact H
              clear H
              have H := H1
              clear H1
              (first | exact absurd H (by simp; done) | exact absurd H laws_FnGoodPathsSorted.j0_no | exact absurd H laws_FnGoodPathsSorted.j7_no | exact absurd H laws_FnGoodPathsSorted.j1_no | exact absurd H laws_FnGoodPathsSorted.j4_no)
          · replace c343 := Bool.eq_false_iff.mpr c343
            subst c343
            go_wp2
            repeat (go_quiet (fail); try go_wp2)
            go_ret
            exact ⟨by first | rfl | (simp [errW_none, errW_some] <;> rfl) | (simp [*, errW_none, errW_some] <;> rfl), by repeat (first | (with_reducible first | exact HB.out | apply below_alloc | apply pw_below_drewN | apply below_drew1) | exact HB.out)⟩

end Go.Proofs.YtjjkglfpcdedlabDoor.QFnGoodPathsSorted
