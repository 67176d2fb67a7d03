/- Written by programs of this repo (xprint, lawcut, lawsplit); Lean checks all of it. -/
import Derived.Test.YtjjkglfpcdedlabDoorQFnGoodPathsSortedx0
import Derived.Test.YtjjkglfpcdedlabDoorQFnGoodPathsSortedx1
import Derived.Test.YtjjkglfpcdedlabDoorQFnGoodPathsSortedx2
import Derived.Test.YtjjkglfpcdedlabDoorQFnGoodPathsSortedx3
import Derived.Test.YtjjkglfpcdedlabDoorQFnGoodPathsSortedx4
import Derived.Test.YtjjkglfpcdedlabDoorQFnGoodPathsSortedx5
import Derived.Test.YtjjkglfpcdedlabDoorQFnGoodPathsSortedx6
import Derived.Test.YtjjkglfpcdedlabDoorQFnGoodPathsSortedx7
import Derived.Test.YtjjkglfpcdedlabDoorQFnGoodPathsSortedx9
import Derived.Test.YtjjkglfpcdedlabDoorQFnGoodPathsSortedx10
import Derived.Test.YtjjkglfpcdedlabDoorQFnGoodPathsSortedx11
import Derived.Test.YtjjkglfpcdedlabDoorQFnGoodPathsSortedx12
namespace Go.Proofs.YtjjkglfpcdedlabDoor.QFnGoodPathsSorted
open Go.RowKit Go.Proofs.YtjjkglfpcdedlabDoorZ Go.Proofs.YtjjkglfpcdedlabDoorZm Go.Maps Go.Proofs.YtjjkglfpcdedlabDoorZc Go.Maps Go.Proofs.YtjjkglfpcdedlabDoorW.PrintWords Go.Proofs.YtjjkglfpcdedlabDoorW.PrintLast Go.Proofs.YtjjkglfpcdedlabDoorW.PrintMore
attribute [local go_sem] max2_int min2_int max_two min_two max_three min_three max_four min_four   -- for this text's walks alone
set_option linter.unusedVariables false
set_option linter.unusedSimpArgs false

set_option maxHeartbeats 8000000 in
set_option maxRecDepth 1000000 in
theorem law_rest0 (k : Nat) (A0 : Option Addr) (c0 : Nat) (l0 : List Int) (A1 : Option Addr) (c1 : Nat) (l1 : List Int) (w wc : World) (HR0 : Aside0 (Kd.C (Kd.int .u8) w A0 l0.length l0)) (HC0 : Aside0 (l0.length ≤ c0)) (HR1 : Aside0 (Kd.C (Kd.int .u8) w A1 l1.length l1)) (HC1 : Aside0 (l1.length ≤ c1)) (t371 : Int) (t372 : List Int) (t373 : Bool) (t380 t388 t396 t404 : List Int) (t412 t416 t420 : Int) (v374 v382 v390 v398 v406 v261 : Value) (hcut : ∃ (kq : Nat) (x261_21 : Bool), v261 = .bool x261_21 ∧ Aside0 (laws_FnGoodPathsSorted.j0 kq l1 t371 t372 t373 t380 t388 t396 t404 t412 t416 t420 x261_21 = some true) ∧ Aside0 (kq ≤ k) ∧ Aside0 (Kd.R (Kd.int .i64) 3 wc w.heap.size (fun k_ => some k_ ≠ (v382 : Value).ownBlock ∧ some k_ ≠ (v390 : Value).ownBlock ∧ some k_ ≠ (v398 : Value).ownBlock ∧ some k_ ≠ (v406 : Value).ownBlock) v374 t372) ∧ Aside0 (Kd.R (Kd.int .i64) 3 wc w.heap.size (fun k_ => some k_ ≠ (v374 : Value).ownBlock ∧ some k_ ≠ (v390 : Value).ownBlock ∧ some k_ ≠ (v398 : Value).ownBlock ∧ some k_ ≠ (v406 : Value).ownBlock) v382 t380) ∧ Aside0 (Kd.R (Kd.int .i64) 3 wc w.heap.size (fun k_ => some k_ ≠ (v374 : Value).ownBlock ∧ some k_ ≠ (v382 : Value).ownBlock ∧ some k_ ≠ (v398 : Value).ownBlock ∧ some k_ ≠ (v406 : Value).ownBlock) v390 t388) ∧ Aside0 (Kd.R (Kd.int .i64) 3 wc w.heap.size (fun k_ => some k_ ≠ (v374 : Value).ownBlock ∧ some k_ ≠ (v382 : Value).ownBlock ∧ some k_ ≠ (v390 : Value).ownBlock ∧ some k_ ≠ (v406 : Value).ownBlock) v398 t396) ∧ Aside0 (Kd.R (Kd.int .i64) 3 wc w.heap.size (fun k_ => some k_ ≠ (v374 : Value).ownBlock ∧ some k_ ≠ (v382 : Value).ownBlock ∧ some k_ ≠ (v390 : Value).ownBlock ∧ some k_ ≠ (v398 : Value).ownBlock) v406 t404) ∧ Aside0 (Below w.heap.size w wc)) (u2 u3 u8 u9 u11 u12 u13 u15 u16 u17 u19 u20 u21 u23 u24 u25 u27 u28 u29 u31 u32 u33 u35 u36 u37 u38 u39 u40 u41 u42 u43 u44 u45 u46 u47 u48 u49 u50 u51 u52 u53 u54 u55 u56 u57 u58 u59 u60 u61 u62 u63 u64 u65 u66 u67 u68 u69 u70 u71 u72 u73 u74 u75 u76 u77 u78 u79 u80 u81 u82 u83 u84 u85 u86 u87 u88 u89 u90 u91 u92 u93 u94 u95 u96 u97 u98 u99 u100 u101 u102 u103 u104 u105 u106 u107 u108 u109 u110 u111 u112 u113 u114 u115 u116 u117 u118 u119 u120 u121 u122 u123 u124 u125 u126 u127 u128 u129 u130 u131 u132 u133 u134 u135 u136 u137 u138 u139 u140 u141 u142 u143 u144 u145 u146 u147 u148 u149 u150 u151 u152 u153 u154 u155 u156 u157 u158 u159 u160 u161 u162 u163 u164 u165 u166 u167 u168 u169 u170 u171 u172 u173 u174 u175 u176 u177 u178 u179 u180 u181 u182 u183 u184 u185 u186 u187 u188 u189 u190 u191 u192 u193 u194 u195 u196 u197 u198 u199 u200 u201 u202 u203 u204 u205 u206 u207 u208 u209 u210 u211 u212 u213 u214 u215 u216 u217 u218 u219 u220 u221 u222 u223 u224 u225 u226 u227 u228 u229 u230 u231 u232 u233 u234 u235 u236 u237 u238 u239 u240 u241 u242 u243 u244 u245 u246 u247 u248 u249 u250 u251 u252 u253 u254 u255 u256 u257 u258 u259 u260 u262 u263 u264 u265 u266 u267 u268 u269 u270 u271 u272 u273 u274 u275 u276 u277 u278 u279 u280 u281 u282 u283 u284 u285 u286 u287 u288 u289 u290 u291 u292 u293 u294 u295 u296 u297 u298 u299 u300 u301 u302 u303 u304 u305 u306 u307 u308 u309 u310 u311 u312 u313 u314 u315 u316 u317 u318 u319 u320 u321 u322 u323 u324 u325 u326 u327 u328 u329 u330 u331 u332 u333 u334 u335 u336 u337 u338 u339 u340 u341 u342 u343 u344 u345 u346 u347 u348 u349 u350 u351 u352 u353 u354 u355 u356 u357 u358 u359 u360 u361 u362 u363 u364 u365 u366 u367 u368 u369 u370 u371 u372 u373 u374 u375 u376 u377 u378 u379 u380 u381 u382 u383 u384 u385 u386 u387 u388 u389 u390 u391 u392 u393 u394 u395 u396 u397 u398 u399 u400 u401 u402 u403 u404 u405 u406 u407 u408 u409 u410 u411 u412 u413 u414 u415 u416 u417 u418 u419 u420 u421 u422 u423 u424 u425 u426 u427 u428 u429 u430 u431 u432 u433 u434 u435 u436 u437 u438 u439 u440 u441 u442 u443 u444 u445 u446 u447 u448 u449 u450 u451 u452 u453 u454 u455 u456 u457 u458 u459 u460 u461 u462 u463 u464 u465 u466 u467 u468 u469 u470 u471 u472 u473 u474 u475 u476 u477 u478 u479 u480 u481 u482 u483 u484 u485 u486 : Value) :
    Code.wp Tryd.prog (sk 20 (Tryd.f3.body.getD .skip)) (bodyPost Tryd.prog Tryd.f3 (fun e w' => e = .returned (.bool true) ∧ Below w.heap.size w w')) ⟨#[.slice A0 l0.length c0, .slice A1 l1.length c1, u2, u3, .bool false, .int .i64 t371, v374, .bool t373, u8, u9, v382, u11, u12, u13, v390, u15, u16, u17, v398, u19, u20, u21, v406, u23, u24, u25, .int .i64 t412, u27, u28, u29, .int .i64 t416, u31, u32, u33, .int .i64 t420, u35, u36, u37, u38, u39, u40, u41, u42, u43, u44, u45, u46, u47, u48, u49, u50, u51, u52, u53, u54, u55, u56, u57, u58, u59, u60, u61, u62, u63, u64, u65, u66, u67, u68, u69, u70, u71, u72, u73, u74, u75, u76, u77, u78, u79, u80, u81, u82, u83, u84, u85, u86, u87, u88, u89, u90, u91, u92, u93, u94, u95, u96, u97, u98, u99, u100, u101, u102, u103, u104, u105, u106, u107, u108, u109, u110, u111, u112, u113, u114, u115, u116, u117, u118, u119, u120, u121, u122, u123, u124, u125, u126, u127, u128, u129, u130, u131, u132, u133, u134, u135, u136, u137, u138, u139, u140, u141, u142, u143, u144, u145, u146, u147, u148, u149, u150, u151, u152, u153, u154, u155, u156, u157, u158, u159, u160, u161, u162, u163, u164, u165, u166, u167, u168, u169, u170, u171, u172, u173, u174, u175, u176, u177, u178, u179, u180, u181, u182, u183, u184, u185, u186, u187, u188, u189, u190, u191, u192, u193, u194, u195, u196, u197, u198, u199, u200, u201, u202, u203, u204, u205, u206, u207, u208, u209, u210, u211, u212, u213, u214, u215, u216, u217, u218, u219, u220, u221, u222, u223, u224, u225, u226, u227, u228, u229, u230, u231, u232, u233, u234, u235, u236, u237, u238, u239, u240, u241, u242, u243, u244, u245, u246, u247, u248, u249, u250, u251, u252, u253, u254, u255, u256, u257, u258, u259, u260, v261, u262, u263, u264, u265, u266, u267, u268, u269, u270, u271, u272, u273, u274, u275, u276, u277, u278, u279, u280, u281, u282, u283, u284, u285, u286, u287, u288, u289, u290, u291, u292, u293, u294, u295, u296, u297, u298, u299, u300, u301, u302, u303, u304, u305, u306, u307, u308, u309, u310, u311, u312, u313, u314, u315, u316, u317, u318, u319, u320, u321, u322, u323, u324, u325, u326, u327, u328, u329, u330, u331, u332, u333, u334, u335, u336, u337, u338, u339, u340, u341, u342, u343, u344, u345, u346, u347, u348, u349, u350, u351, u352, u353, u354, u355, u356, u357, u358, u359, u360, u361, u362, u363, u364, u365, u366, u367, u368, u369, u370, u371, u372, u373, u374, u375, u376, u377, u378, u379, u380, u381, u382, u383, u384, u385, u386, u387, u388, u389, u390, u391, u392, u393, u394, u395, u396, u397, u398, u399, u400, u401, u402, u403, u404, u405, u406, u407, u408, u409, u410, u411, u412, u413, u414, u415, u416, u417, u418, u419, u420, u421, u422, u423, u424, u425, u426, u427, u428, u429, u430, u431, u432, u433, u434, u435, u436, u437, u438, u439, u440, u441, u442, u443, u444, u445, u446, u447, u448, u449, u450, u451, u452, u453, u454, u455, u456, u457, u458, u459, u460, u461, u462, u463, u464, u465, u466, u467, u468, u469, u470, u471, u472, u473, u474, u475, u476, u477, u478, u479, u480, u481, u482, u483, u484, u485, u486], []⟩ wc := by
  conv => arg 2; whnf
  obtain ⟨kq, x261_21, rfl, HA, HJ21, HO_6, HO_10, HO_14, HO_18, HO_22, HB⟩ := hcut
  cases kq with
  | zero => exact absurd HA.out (by simp [laws_FnGoodPathsSorted.j0])
  | succ kj21 =>
    have H := HA.out
    clear HA
    simp only [laws_FnGoodPathsSorted.j0] at H
    by_cases c245 : x261_21 = true
    · subst c245
      have H1 : (some false) = some true := by rw [if_pos rfl] at H; exact H
      clear H
      have H := H1
      clear H1
      (first | exact absurd H (by simp; done) | exact absurd H laws_FnGoodPathsSorted.j0_no | exact absurd H laws_FnGoodPathsSorted.j7_no | exact absurd H laws_FnGoodPathsSorted.j1_no | exact absurd H laws_FnGoodPathsSorted.j4_no)
    · replace c245 := Bool.eq_false_iff.mpr c245
      subst c245
      rw [if_neg (show ¬ (false = true) by decide)] at H
      have HC246 := Aside0.mk H
      clear H
      go_upto_if 262 with (fail)
      repeat (go_quiet (fail); go_upto_if 262 with (fail))
      go_cut [38, 39, 40, 41, 42, 43, 44, 45, 46, 47, 48, 49] from 263 to 434 (fun v38 v39 v40 v41 v42 v43 v44 v45 v46 v47 v48 v49 wc => ∃ (kq : Nat), Aside0 (laws_FnGoodPathsSorted.j6 kq l1 = some true) ∧ Aside0 (kq ≤ kj21) ∧ Aside0 (Below w.heap.size w wc))
      case first =>
        have H := HC246.out
        clear HC246
        by_cases c247 : t373 = true
        · subst c247
          rw [if_pos rfl] at H
          have HC248 := Aside0.mk H
          clear H
          go_upto_region 23 with (fail)
          repeat (go_quiet (fail); go_upto_region 23 with (fail))
          go_cut [313] from 263 to 312 (fun v313 wc => ∃ (kq : Nat) (x313_247 : Bool), v313 = .bool x313_247 ∧ Aside0 (laws_FnGoodPathsSorted.j1 kq l1 t371 t372 t380 t396 t412 t416 t420 x313_247 = some true) ∧ Aside0 (kq ≤ kj21) ∧ Aside0 (Kd.R (Kd.int .i64) 3 wc w.heap.size (fun k_ => some k_ ≠ (v382 : Value).ownBlock ∧ some k_ ≠ (v398 : Value).ownBlock) v374 t372) ∧ Aside0 (Kd.R (Kd.int .i64) 3 wc w.heap.size (fun k_ => some k_ ≠ (v374 : Value).ownBlock ∧ some k_ ≠ (v398 : Value).ownBlock) v382 t380) ∧ Aside0 (Kd.R (Kd.int .i64) 3 wc w.heap.size (fun k_ => some k_ ≠ (v374 : Value).ownBlock ∧ some k_ ≠ (v382 : Value).ownBlock) v398 t396) ∧ Aside0 (Below w.heap.size w wc))
          case first =>
            have H := HC248.out
            clear HC248
            by_cases c249 : (t372.length : Int) = (wrap64 (t371 + 1))
            · rw [if_pos c249] at H
              have c249b0 : ((t372.length : Int) == (wrap64 (t371 + 1))) = true := beq_iff_eq.mpr c249
              have c249b1 : ((t372.length : Int) != (wrap64 (t371 + 1))) = false := bne_eq_false_iff_eq.mpr c249
              clear c249
              (first | rw [c249b0] | (simp only [i64_w, i32_w]; rw [c249b0]) | skip)
              by_cases c250 : (t380.length : Int) = (wrap64 (t371 + 1))
              · rw [if_pos c250] at H
                have c250b0 : ((t380.length : Int) == (wrap64 (t371 + 1))) = true := beq_iff_eq.mpr c250
                have c250b1 : ((t380.length : Int) != (wrap64 (t371 + 1))) = false := bne_eq_false_iff_eq.mpr c250
                clear c250
                by_cases c251 : (t396.length : Int) = (wrap64 ((wrap64 (t371 * t371)) + 1))
                · rw [if_pos c251] at H
                  have c251b0 : ((t396.length : Int) == (wrap64 ((wrap64 (t371 * t371)) + 1))) = true := beq_iff_eq.mpr c251
                  have c251b1 : ((t396.length : Int) != (wrap64 ((wrap64 (t371 * t371)) + 1))) = false := bne_eq_false_iff_eq.mpr c251
                  clear c251
                  replace H := Option.bind_eq_some_iff.mp H
                  obtain ⟨t429, A2520, H⟩ := H
                  (try dsimp only at H)
                  have A252 := Aside0.mk A2520
                  clear A2520
                  by_cases c253 : t429 = t412
                  · rw [if_pos c253] at H
                    have c253b0 : (t429 == t412) = true := beq_iff_eq.mpr c253
                    have c253b1 : (t429 != t412) = false := bne_eq_false_iff_eq.mpr c253
                    clear c253
                    replace H := Option.bind_eq_some_iff.mp H
                    obtain ⟨t430, A2540, H⟩ := H
                    (try dsimp only at H)
                    have A254 := Aside0.mk A2540
                    clear A2540
                    by_cases c255 : t430 = t412
                    · rw [if_pos c255] at H
                      have c255b0 : (t430 == t412) = true := beq_iff_eq.mpr c255
                      have c255b1 : (t430 != t412) = false := bne_eq_false_iff_eq.mpr c255
                      clear c255
                      replace H := Option.bind_eq_some_iff.mp H
                      obtain ⟨t431, A2560, H⟩ := H
                      (try dsimp only at H)
                      have A256 := Aside0.mk A2560
                      clear A2560
                      by_cases c257 : t431 = t412
                      · rw [if_pos c257] at H
                        have c257b0 : (t431 == t412) = true := beq_iff_eq.mpr c257
                        have c257b1 : (t431 != t412) = false := bne_eq_false_iff_eq.mpr c257
                        clear c257
                        replace H := Option.bind_eq_some_iff.mp H
                        obtain ⟨t432, A2580, H⟩ := H
                        (try dsimp only at H)
                        have A258 := Aside0.mk A2580
                        clear A2580
                        by_cases c259 : t432 = t412
                        · rw [if_pos c259] at H
                          have c259b0 : (t432 == t412) = true := beq_iff_eq.mpr c259
                          have c259b1 : (t432 != t412) = false := bne_eq_false_iff_eq.mpr c259
                          clear c259
                          replace H := Option.bind_eq_some_iff.mp H
                          obtain ⟨t433, A2600, H⟩ := H
                          replace H : (laws_FnGoodPathsSorted.j1 kj21 l1 t371 t372 t380 t396 t412 t416 t420 (!t433)) = some true := H
                          have A260 := Aside0.mk A2600
                          clear A2600
                          have H' := Aside0.mk H
                          clear H
                          obtain ⟨Ao261, co261, eo261⟩ := Kd.R_slice HO_6.out
                          subst eo261
                          obtain ⟨Ao262, co262, eo262⟩ := Kd.R_slice HO_10.out
                          subst eo262
                          obtain ⟨Ao263, co263, eo263⟩ := Kd.R_slice HO_18.out
                          subst eo263
                          go_wp2_with (first | (go_at_call 23; (with_reducible refine (laws_ySum.calls kj21 _ _ t372 t429 _ ?side1 ?side2 A252.out).mono ?_); (case side1 => repeat (first | exact (Kd.R_reads' HO_6.out).2.2 | (with_reducible refine Kd.C_alloc ?_ _) | (with_reducible refine Kd.C_drewN ?_ _) | (with_reducible refine Kd.C_drew ?_))); (case side2 => exact (Kd.R_reads' HO_6.out).2.1); rintro e w' ⟨rfl, ⟨nd, rfl⟩⟩; (try first | exact ⟨rfl, _, World.drewN_drewN _ _ _⟩ | exact ⟨rfl, _, Eq.trans (World.drewN_drewN _ _ _) (congrArg (World.drewN _) (Nat.add_assoc _ _ _))⟩)) | (go_at_call 23; (with_reducible refine (laws_ySum.calls kj21 _ _ t380 t430 _ ?side1 ?side2 A254.out).mono ?_); (case side1 => repeat (first | exact (Kd.R_reads' HO_10.out).2.2 | (with_reducible refine Kd.C_alloc ?_ _) | (with_reducible refine Kd.C_drewN ?_ _) | (with_reducible refine Kd.C_drew ?_))); (case side2 => exact (Kd.R_reads' HO_10.out).2.1); rintro e w' ⟨rfl, ⟨nd, rfl⟩⟩; (try first | exact ⟨rfl, _, World.drewN_drewN _ _ _⟩ | exact ⟨rfl, _, Eq.trans (World.drewN_drewN _ _ _) (congrArg (World.drewN _) (Nat.add_assoc _ _ _))⟩); obtain ⟨Ao264, co264, eo264⟩ := Kd.R_slice HO_14.out; subst eo264) | (go_at_call 23; (with_reducible refine (laws_ySum.calls kj21 _ _ t388 t431 _ ?side1 ?side2 A256.out).mono ?_); (case side1 => repeat (first | exact (Kd.R_reads' HO_14.out).2.2 | (with_reducible refine Kd.C_alloc ?_ _) | (with_reducible refine Kd.C_drewN ?_ _) | (with_reducible refine Kd.C_drew ?_))); (case side2 => exact (Kd.R_reads' HO_14.out).2.1); rintro e w' ⟨rfl, ⟨nd, rfl⟩⟩; (try first | exact ⟨rfl, _, World.drewN_drewN _ _ _⟩ | exact ⟨rfl, _, Eq.trans (World.drewN_drewN _ _ _) (congrArg (World.drewN _) (Nat.add_assoc _ _ _))⟩)) | (go_at_call 23; (with_reducible refine (laws_ySum.calls kj21 _ _ t396 t432 _ ?side1 ?side2 A258.out).mono ?_); (case side1 => repeat (first | exact (Kd.R_reads' HO_18.out).2.2 | (with_reducible refine Kd.C_alloc ?_ _) | (with_reducible refine Kd.C_drewN ?_ _) | (with_reducible refine Kd.C_drew ?_))); (case side2 => exact (Kd.R_reads' HO_18.out).2.1); rintro e w' ⟨rfl, ⟨nd, rfl⟩⟩; (try first | exact ⟨rfl, _, World.drewN_drewN _ _ _⟩ | exact ⟨rfl, _, Eq.trans (World.drewN_drewN _ _ _) (congrArg (World.drewN _) (Nat.add_assoc _ _ _))⟩); obtain ⟨Ao265, co265, eo265⟩ := Kd.R_slice HO_22.out; subst eo265) | (go_at_call 22; (with_reducible refine (laws_ySame.calls kj21 _ _ t388 _ _ t404 t433 _ ?side1 ?side2 ?side3 ?side4 A260.out).mono ?_); (case side1 => repeat (first | exact (Kd.R_reads' HO_14.out).2.2 | (with_reducible refine Kd.C_alloc ?_ _) | (with_reducible refine Kd.C_drewN ?_ _) | (with_reducible refine Kd.C_drew ?_))); (case side2 => exact (Kd.R_reads' HO_14.out).2.1); (case side3 => repeat (first | exact (Kd.R_reads' HO_22.out).2.2 | (with_reducible refine Kd.C_alloc ?_ _) | (with_reducible refine Kd.C_drewN ?_ _) | (with_reducible refine Kd.C_drew ?_))); (case side4 => exact (Kd.R_reads' HO_22.out).2.1); rintro e w' ⟨rfl, ⟨nd, rfl⟩⟩; (try first | exact ⟨rfl, _, World.drewN_drewN _ _ _⟩ | exact ⟨rfl, _, Eq.trans (World.drewN_drewN _ _ _) (congrArg (World.drewN _) (Nat.add_assoc _ _ _))⟩)))
                          repeat (go_quiet (first | (go_at_call 23; (with_reducible refine (laws_ySum.calls kj21 _ _ t372 t429 _ ?side1 ?side2 A252.out).mono ?_); (case side1 => repeat (first | exact (Kd.R_reads' HO_6.out).2.2 | (with_reducible refine Kd.C_alloc ?_ _) | (with_reducible refine Kd.C_drewN ?_ _) | (with_reducible refine Kd.C_drew ?_))); (case side2 => exact (Kd.R_reads' HO_6.out).2.1); rintro e w' ⟨rfl, ⟨nd, rfl⟩⟩; (try first | exact ⟨rfl, _, World.drewN_drewN _ _ _⟩ | exact ⟨rfl, _, Eq.trans (World.drewN_drewN _ _ _) (congrArg (World.drewN _) (Nat.add_assoc _ _ _))⟩)) | (go_at_call 23; (with_reducible refine (laws_ySum.calls kj21 _ _ t380 t430 _ ?side1 ?side2 A254.out).mono ?_); (case side1 => repeat (first | exact (Kd.R_reads' HO_10.out).2.2 | (with_reducible refine Kd.C_alloc ?_ _) | (with_reducible refine Kd.C_drewN ?_ _) | (with_reducible refine Kd.C_drew ?_))); (case side2 => exact (Kd.R_reads' HO_10.out).2.1); rintro e w' ⟨rfl, ⟨nd, rfl⟩⟩; (try first | exact ⟨rfl, _, World.drewN_drewN _ _ _⟩ | exact ⟨rfl, _, Eq.trans (World.drewN_drewN _ _ _) (congrArg (World.drewN _) (Nat.add_assoc _ _ _))⟩); obtain ⟨Ao264, co264, eo264⟩ := Kd.R_slice HO_14.out; subst eo264) | (go_at_call 23; (with_reducible refine (laws_ySum.calls kj21 _ _ t388 t431 _ ?side1 ?side2 A256.out).mono ?_); (case side1 => repeat (first | exact (Kd.R_reads' HO_14.out).2.2 | (with_reducible refine Kd.C_alloc ?_ _) | (with_reducible refine Kd.C_drewN ?_ _) | (with_reducible refine Kd.C_drew ?_))); (case side2 => exact (Kd.R_reads' HO_14.out).2.1); rintro e w' ⟨rfl, ⟨nd, rfl⟩⟩; (try first | exact ⟨rfl, _, World.drewN_drewN _ _ _⟩ | exact ⟨rfl, _, Eq.trans (World.drewN_drewN _ _ _) (congrArg (World.drewN _) (Nat.add_assoc _ _ _))⟩)) | (go_at_call 23; (with_reducible refine (laws_ySum.calls kj21 _ _ t396 t432 _ ?side1 ?side2 A258.out).mono ?_); (case side1 => repeat (first | exact (Kd.R_reads' HO_18.out).2.2 | (with_reducible refine Kd.C_alloc ?_ _) | (with_reducible refine Kd.C_drewN ?_ _) | (with_reducible refine Kd.C_drew ?_))); (case side2 => exact (Kd.R_reads' HO_18.out).2.1); rintro e w' ⟨rfl, ⟨nd, rfl⟩⟩; (try first | exact ⟨rfl, _, World.drewN_drewN _ _ _⟩ | exact ⟨rfl, _, Eq.trans (World.drewN_drewN _ _ _) (congrArg (World.drewN _) (Nat.add_assoc _ _ _))⟩); obtain ⟨Ao265, co265, eo265⟩ := Kd.R_slice HO_22.out; subst eo265) | (go_at_call 22; (with_reducible refine (laws_ySame.calls kj21 _ _ t388 _ _ t404 t433 _ ?side1 ?side2 ?side3 ?side4 A260.out).mono ?_); (case side1 => repeat (first | exact (Kd.R_reads' HO_14.out).2.2 | (with_reducible refine Kd.C_alloc ?_ _) | (with_reducible refine Kd.C_drewN ?_ _) | (with_reducible refine Kd.C_drew ?_))); (case side2 => exact (Kd.R_reads' HO_14.out).2.1); (case side3 => repeat (first | exact (Kd.R_reads' HO_22.out).2.2 | (with_reducible refine Kd.C_alloc ?_ _) | (with_reducible refine Kd.C_drewN ?_ _) | (with_reducible refine Kd.C_drew ?_))); (case side4 => exact (Kd.R_reads' HO_22.out).2.1); rintro e w' ⟨rfl, ⟨nd, rfl⟩⟩; (try first | exact ⟨rfl, _, World.drewN_drewN _ _ _⟩ | exact ⟨rfl, _, Eq.trans (World.drewN_drewN _ _ _) (congrArg (World.drewN _) (Nat.add_assoc _ _ _))⟩))); try go_wp2_with (first | (go_at_call 23; (with_reducible refine (laws_ySum.calls kj21 _ _ t372 t429 _ ?side1 ?side2 A252.out).mono ?_); (case side1 => repeat (first | exact (Kd.R_reads' HO_6.out).2.2 | (with_reducible refine Kd.C_alloc ?_ _) | (with_reducible refine Kd.C_drewN ?_ _) | (with_reducible refine Kd.C_drew ?_))); (case side2 => exact (Kd.R_reads' HO_6.out).2.1); rintro e w' ⟨rfl, ⟨nd, rfl⟩⟩; (try first | exact ⟨rfl, _, World.drewN_drewN _ _ _⟩ | exact ⟨rfl, _, Eq.trans (World.drewN_drewN _ _ _) (congrArg (World.drewN _) (Nat.add_assoc _ _ _))⟩)) | (go_at_call 23; (with_reducible refine (laws_ySum.calls kj21 _ _ t380 t430 _ ?side1 ?side2 A254.out).mono ?_); (case side1 => repeat (first | exact (Kd.R_reads' HO_10.out).2.2 | (with_reducible refine Kd.C_alloc ?_ _) | (with_reducible refine Kd.C_drewN ?_ _) | (with_reducible refine Kd.C_drew ?_))); (case side2 => exact (Kd.R_reads' HO_10.out).2.1); rintro e w' ⟨rfl, ⟨nd, rfl⟩⟩; (try first | exact ⟨rfl, _, World.drewN_drewN _ _ _⟩ | exact ⟨rfl, _, Eq.trans (World.drewN_drewN _ _ _) (congrArg (World.drewN _) (Nat.add_assoc _ _ _))⟩); obtain ⟨Ao264, co264, eo264⟩ := Kd.R_slice HO_14.out; subst eo264) | (go_at_call 23; (with_reducible refine (laws_ySum.calls kj21 _ _ t388 t431 _ ?side1 ?side2 A256.out).mono ?_); (case side1 => repeat (first | exact (Kd.R_reads' HO_14.out).2.2 | (with_reducible refine Kd.C_alloc ?_ _) | (with_reducible refine Kd.C_drewN ?_ _) | (with_reducible refine Kd.C_drew ?_))); (case side2 => exact (Kd.R_reads' HO_14.out).2.1); rintro e w' ⟨rfl, ⟨nd, rfl⟩⟩; (try first | exact ⟨rfl, _, World.drewN_drewN _ _ _⟩ | exact ⟨rfl, _, Eq.trans (World.drewN_drewN _ _ _) (congrArg (World.drewN _) (Nat.add_assoc _ _ _))⟩)) | (go_at_call 23; (with_reducible refine (laws_ySum.calls kj21 _ _ t396 t432 _ ?side1 ?side2 A258.out).mono ?_); (case side1 => repeat (first | exact (Kd.R_reads' HO_18.out).2.2 | (with_reducible refine Kd.C_alloc ?_ _) | (with_reducible refine Kd.C_drewN ?_ _) | (with_reducible refine Kd.C_drew ?_))); (case side2 => exact (Kd.R_reads' HO_18.out).2.1); rintro e w' ⟨rfl, ⟨nd, rfl⟩⟩; (try first | exact ⟨rfl, _, World.drewN_drewN _ _ _⟩ | exact ⟨rfl, _, Eq.trans (World.drewN_drewN _ _ _) (congrArg (World.drewN _) (Nat.add_assoc _ _ _))⟩); obtain ⟨Ao265, co265, eo265⟩ := Kd.R_slice HO_22.out; subst eo265) | (go_at_call 22; (with_reducible refine (laws_ySame.calls kj21 _ _ t388 _ _ t404 t433 _ ?side1 ?side2 ?side3 ?side4 A260.out).mono ?_); (case side1 => repeat (first | exact (Kd.R_reads' HO_14.out).2.2 | (with_reducible refine Kd.C_alloc ?_ _) | (with_reducible refine Kd.C_drewN ?_ _) | (with_reducible refine Kd.C_drew ?_))); (case side2 => exact (Kd.R_reads' HO_14.out).2.1); (case side3 => repeat (first | exact (Kd.R_reads' HO_22.out).2.2 | (with_reducible refine Kd.C_alloc ?_ _) | (with_reducible refine Kd.C_drewN ?_ _) | (with_reducible refine Kd.C_drew ?_))); (case side4 => exact (Kd.R_reads' HO_22.out).2.1); rintro e w' ⟨rfl, ⟨nd, rfl⟩⟩; (try first | exact ⟨rfl, _, World.drewN_drewN _ _ _⟩ | exact ⟨rfl, _, Eq.trans (World.drewN_drewN _ _ _) (congrArg (World.drewN _) (Nat.add_assoc _ _ _))⟩))))
                          go_meet
                          case rel => exact ⟨_, (!t433), (by first | rfl | (simp; done) | (simp [*]; done)), H', ⟨by have := HJ21.out; first | omega | exact Nat.le_refl _⟩, ⟨by (with_reducible repeat (first | apply Kd.R_alloc | apply Kd.R_drewN | apply Kd.R_drew)); exact Kd.R_mono HO_6.out (fun _ hk => ⟨hk.1, hk.2.2.1⟩)⟩, ⟨by (with_reducible repeat (first | apply Kd.R_alloc | apply Kd.R_drewN | apply Kd.R_drew)); exact Kd.R_mono HO_10.out (fun _ hk => ⟨hk.1, hk.2.2.1⟩)⟩, ⟨by (with_reducible repeat (first | apply Kd.R_alloc | apply Kd.R_drewN | apply Kd.R_drew)); exact Kd.R_mono HO_18.out (fun _ hk => ⟨hk.1, hk.2.1⟩)⟩, ⟨by repeat (first | (with_reducible first | exact HB.out | apply below_alloc | apply pw_below_drewN | apply below_drew1) | exact HB.out)⟩⟩
                        · rw [if_neg c259] at H
                          (first | exact absurd H (by simp; done) | exact absurd H laws_FnGoodPathsSorted.j0_no | exact absurd H laws_FnGoodPathsSorted.j7_no | exact absurd H laws_FnGoodPathsSorted.j1_no | exact absurd H laws_FnGoodPathsSorted.j4_no)
                      · rw [if_neg c257] at H
                        (first | exact absurd H (by simp; done) | exact absurd H laws_FnGoodPathsSorted.j0_no | exact absurd H laws_FnGoodPathsSorted.j7_no | exact absurd H laws_FnGoodPathsSorted.j1_no | exact absurd H laws_FnGoodPathsSorted.j4_no)
                    · rw [if_neg c255] at H
                      (first | exact absurd H (by simp; done) | exact absurd H laws_FnGoodPathsSorted.j0_no | exact absurd H laws_FnGoodPathsSorted.j7_no | exact absurd H laws_FnGoodPathsSorted.j1_no | exact absurd H laws_FnGoodPathsSorted.j4_no)
                  · rw [if_neg c253] at H
                    (first | exact absurd H (by simp; done) | exact absurd H laws_FnGoodPathsSorted.j0_no | exact absurd H laws_FnGoodPathsSorted.j7_no | exact absurd H laws_FnGoodPathsSorted.j1_no | exact absurd H laws_FnGoodPathsSorted.j4_no)
                · rw [if_neg c251] at H
                  (first | exact absurd H (by simp; done) | exact absurd H laws_FnGoodPathsSorted.j0_no | exact absurd H laws_FnGoodPathsSorted.j7_no | exact absurd H laws_FnGoodPathsSorted.j1_no | exact absurd H laws_FnGoodPathsSorted.j4_no)
              · rw [if_neg c250] at H
                (first | exact absurd H (by simp; done) | exact absurd H laws_FnGoodPathsSorted.j0_no | exact absurd H laws_FnGoodPathsSorted.j7_no | exact absurd H laws_FnGoodPathsSorted.j1_no | exact absurd H laws_FnGoodPathsSorted.j4_no)
            · rw [if_neg c249] at H
              (first | exact absurd H (by simp; done) | exact absurd H laws_FnGoodPathsSorted.j0_no | exact absurd H laws_FnGoodPathsSorted.j7_no | exact absurd H laws_FnGoodPathsSorted.j1_no | exact absurd H laws_FnGoodPathsSorted.j4_no)
          case rest =>
            clear HC248
            try clear c1
            try clear c2
            try clear p2
            try clear c3
            try clear c4
            try clear c5
            try clear c6
            try clear p6
            try clear c7
            try clear c8
            try clear c9
            try clear c10
            try clear c12
            try clear c13
            try clear c14
            try clear c15
            try clear c16
            try clear c24
            try clear c25
            try clear c38
            try clear c38b0
            try clear c38b1
            try clear c38b2
            try clear c40
            try clear c41
            try clear c41b0
            try clear c41b1
            try clear c41b2
            try clear c45
            try clear c46
            try clear c46b0
            try clear c46b1
            try clear c46b2
            try clear c52
            try clear c53
            try clear c53b0
            try clear c53b1
            try clear c53b2
            try clear c61
            try clear c62
            try clear c62b0
            try clear c62b1
            try clear c62b2
            try clear p64
            try clear c72
            try clear c73
            try clear c73b0
            try clear c73b1
            try clear c73b2
            try clear c84
            try clear c84b0
            try clear c84b1
            try clear c85
            try clear c85b0
            try clear c85b1
            try clear c85b2
            try clear c96
            try clear c96b0
            try clear c96b1
            try clear c97
            try clear c97b0
            try clear c97b1
            try clear c97b2
            try clear c108
            try clear c108b0
            try clear c108b1
            try clear c109
            try clear c109b0
            try clear c109b1
            try clear c109b2
            try clear c120
            try clear c120b0
            try clear c120b1
            try clear c120b2
            try clear c131
            try clear c131b0
            try clear c131b1
            try clear c131b2
            try clear c142
            try clear c142b0
            try clear c142b1
            try clear c142b2
            try clear c153
            try clear c153b0
            try clear c153b1
            try clear c153b2
            try clear c164
            try clear c164b0
            try clear c164b1
            try clear c164b2
            try clear c245
            try clear c247
            try clear c249
            try clear c249b0
            try clear c249b1
            try clear c250
            try clear c250b0
            try clear c250b1
            try clear c251
            try clear c251b0
            try clear c251b1
            try clear c253
            try clear c253b0
            try clear c253b1
            try clear c255
            try clear c255b0
            try clear c255b1
            try clear c257
            try clear c257b0
            try clear c257b1
            try clear c259
            try clear c259b0
            try clear c259b1
            try clear p2
            obtain ⟨kq, x313_247, rfl, HA, HJ247, HO_6, HO_10, HO_18, HB⟩ := hcut
            cases kq with
            | zero => exact absurd HA.out (by simp [laws_FnGoodPathsSorted.j1])
            | succ kj247 =>
              have H := HA.out
              clear HA
              simp only [laws_FnGoodPathsSorted.j1] at H
              by_cases c286 : x313_247 = true
              · subst c286
                have H1 : (some false) = some true := by rw [if_pos rfl] at H; exact H
                clear H
                have H := H1
                clear H1
                (first | exact absurd H (by simp; done) | exact absurd H laws_FnGoodPathsSorted.j0_no | exact absurd H laws_FnGoodPathsSorted.j7_no | exact absurd H laws_FnGoodPathsSorted.j1_no | exact absurd H laws_FnGoodPathsSorted.j4_no)
              · replace c286 := Bool.eq_false_iff.mpr c286
                subst c286
                rw [if_neg (show ¬ (false = true) by decide)] at H
                replace H := Option.bind_eq_some_iff.mp H
                obtain ⟨⟨t434, t435⟩, A2870, H⟩ := H
                (try dsimp only at H)
                have A287 := Aside0.mk A2870
                clear A2870
                replace H := Option.bind_eq_some_iff.mp H
                obtain ⟨⟨t436, t437⟩, A2880, H⟩ := H
                (try dsimp only at H)
                have A288 := Aside0.mk A2880
                clear A2880
                have H' := Aside0.mk H
                clear H
                go_wp2_with (first | (go_at_call 24; (with_reducible refine (impl_CountNeverBehind.calls kj247 t371 t371 1 t434 t435 _ A287.out).mono ?_); rintro e w' ⟨rfl, ⟨nd, rfl⟩⟩; (try first | exact ⟨rfl, _, World.drewN_drewN _ _ _⟩ | exact ⟨rfl, _, Eq.trans (World.drewN_drewN _ _ _) (congrArg (World.drewN _) (Nat.add_assoc _ _ _))⟩)) | (go_at_call 25; (with_reducible refine (impl_CountPaths.calls kj247 t371 (wrap64 (t371 + 1)) t436 t437 _ A288.out).mono ?_); rintro e w' ⟨rfl, ⟨nd, rfl⟩⟩; (try first | exact ⟨rfl, _, World.drewN_drewN _ _ _⟩ | exact ⟨rfl, _, Eq.trans (World.drewN_drewN _ _ _) (congrArg (World.drewN _) (Nat.add_assoc _ _ _))⟩); obtain ⟨Ao289, co289, eo289⟩ := Kd.R_slice HO_18.out; subst eo289))
                repeat (go_quiet (first | (go_at_call 24; (with_reducible refine (impl_CountNeverBehind.calls kj247 t371 t371 1 t434 t435 _ A287.out).mono ?_); rintro e w' ⟨rfl, ⟨nd, rfl⟩⟩; (try first | exact ⟨rfl, _, World.drewN_drewN _ _ _⟩ | exact ⟨rfl, _, Eq.trans (World.drewN_drewN _ _ _) (congrArg (World.drewN _) (Nat.add_assoc _ _ _))⟩)) | (go_at_call 25; (with_reducible refine (impl_CountPaths.calls kj247 t371 (wrap64 (t371 + 1)) t436 t437 _ A288.out).mono ?_); rintro e w' ⟨rfl, ⟨nd, rfl⟩⟩; (try first | exact ⟨rfl, _, World.drewN_drewN _ _ _⟩ | exact ⟨rfl, _, Eq.trans (World.drewN_drewN _ _ _) (congrArg (World.drewN _) (Nat.add_assoc _ _ _))⟩); obtain ⟨Ao289, co289, eo289⟩ := Kd.R_slice HO_18.out; subst eo289)); try go_wp2_with (first | (go_at_call 24; (with_reducible refine (impl_CountNeverBehind.calls kj247 t371 t371 1 t434 t435 _ A287.out).mono ?_); rintro e w' ⟨rfl, ⟨nd, rfl⟩⟩; (try first | exact ⟨rfl, _, World.drewN_drewN _ _ _⟩ | exact ⟨rfl, _, Eq.trans (World.drewN_drewN _ _ _) (congrArg (World.drewN _) (Nat.add_assoc _ _ _))⟩)) | (go_at_call 25; (with_reducible refine (impl_CountPaths.calls kj247 t371 (wrap64 (t371 + 1)) t436 t437 _ A288.out).mono ?_); rintro e w' ⟨rfl, ⟨nd, rfl⟩⟩; (try first | exact ⟨rfl, _, World.drewN_drewN _ _ _⟩ | exact ⟨rfl, _, Eq.trans (World.drewN_drewN _ _ _) (congrArg (World.drewN _) (Nat.add_assoc _ _ _))⟩); obtain ⟨Ao289, co289, eo289⟩ := Kd.R_slice HO_18.out; subst eo289)))
                go_loopg [42, 329] kj247 (fun kq v42 v329 w' => ∃ (x42_3 : Int) (x329_3 : Int), v42 = .int .i64 x42_3 ∧ v329 = .int .i64 x329_3 ∧ Aside0 (laws_FnGoodPathsSorted.l0 kq l1 t371 t372 t380 t396 t412 t416 t420 t434 t435 t436 t437 x42_3 0 t396 (t396.length : Int) x329_3 = some true) ∧ Aside0 (kq ≤ kj247) ∧ Aside0 (Kd.R (Kd.int .i64) 3 w' w.heap.size (fun k_ => some k_ ≠ (v382 : Value).ownBlock ∧ some k_ ≠ ((.slice Ao289 t396.length co289) : Value).ownBlock ∧ some k_ ≠ ((.slice Ao289 t396.length co289) : Value).ownBlock) v374 t372) ∧ Aside0 (Kd.R (Kd.int .i64) 3 w' w.heap.size (fun k_ => some k_ ≠ (v374 : Value).ownBlock ∧ some k_ ≠ ((.slice Ao289 t396.length co289) : Value).ownBlock ∧ some k_ ≠ ((.slice Ao289 t396.length co289) : Value).ownBlock) v382 t380) ∧ Aside0 (Kd.R (Kd.int .i64) 3 w' w.heap.size (fun k_ => some k_ ≠ (v374 : Value).ownBlock ∧ some k_ ≠ (v382 : Value).ownBlock) (.slice Ao289 t396.length co289) t396) ∧ Aside0 (Kd.R (Kd.int .i64) 3 w' w.heap.size (fun k_ => some k_ ≠ (v374 : Value).ownBlock ∧ some k_ ≠ (v382 : Value).ownBlock) (.slice Ao289 t396.length co289) t396) ∧ Aside0 (Below w.heap.size w w'))
                case atStart => exact ⟨(0), (0), (by first | rfl | (simp; done) | (simp [*]; done)), (by first | rfl | (simp; done) | (simp [*]; done)), H', ⟨Nat.le_refl _⟩, ⟨by (with_reducible repeat (first | apply Kd.R_alloc | apply Kd.R_drewN | apply Kd.R_drew)); exact Kd.R_mono HO_6.out (fun _ hk => ⟨hk.1, ⟨hk.2, hk.2⟩⟩)⟩, ⟨by (with_reducible repeat (first | apply Kd.R_alloc | apply Kd.R_drewN | apply Kd.R_drew)); exact Kd.R_mono HO_10.out (fun _ hk => ⟨hk.1, ⟨hk.2, hk.2⟩⟩)⟩, ⟨by (with_reducible repeat (first | apply Kd.R_alloc | apply Kd.R_drewN | apply Kd.R_drew)); exact HO_18.out⟩, ⟨by (with_reducible repeat (first | apply Kd.R_alloc | apply Kd.R_drewN | apply Kd.R_drew)); exact HO_18.out⟩, ⟨by repeat (first | (with_reducible first | exact HB.out | apply below_alloc | apply pw_below_drewN | apply below_drew1) | exact HB.out)⟩⟩
                case round =>
                  clear H'
                  try clear c1
                  try clear c2
                  try clear p2
                  try clear c3
                  try clear c4
                  try clear c5
                  try clear c6
                  try clear p6
                  try clear c7
                  try clear c8
                  try clear c9
                  try clear c10
                  try clear c12
                  try clear c13
                  try clear c14
                  try clear c15
                  try clear c16
                  try clear c24
                  try clear c25
                  try clear c28
                  try clear c38
                  try clear c38b0
                  try clear c38b1
                  try clear c38b2
                  try clear c40
                  try clear c41
                  try clear c41b0
                  try clear c41b1
                  try clear c41b2
                  try clear c45
                  try clear c46
                  try clear c46b0
                  try clear c46b1
                  try clear c46b2
                  try clear c52
                  try clear c53
                  try clear c53b0
                  try clear c53b1
                  try clear c53b2
                  try clear c61
                  try clear c62
                  try clear c62b0
                  try clear c62b1
                  try clear c62b2
                  try clear p64
                  try clear c72
                  try clear c73
                  try clear c73b0
                  try clear c73b1
                  try clear c73b2
                  try clear c84
                  try clear c84b0
                  try clear c84b1
                  try clear c85
                  try clear c85b0
                  try clear c85b1
                  try clear c85b2
                  try clear c96
                  try clear c96b0
                  try clear c96b1
                  try clear c97
                  try clear c97b0
                  try clear c97b1
                  try clear c97b2
                  try clear c108
                  try clear c108b0
                  try clear c108b1
                  try clear c109
                  try clear c109b0
                  try clear c109b1
                  try clear c109b2
                  try clear c120
                  try clear c120b0
                  try clear c120b1
                  try clear c120b2
                  try clear c131
                  try clear c131b0
                  try clear c131b1
                  try clear c131b2
                  try clear c142
                  try clear c142b0
                  try clear c142b1
                  try clear c142b2
                  try clear c153
                  try clear c153b0
                  try clear c153b1
                  try clear c153b2
                  try clear c164
                  try clear c164b0
                  try clear c164b1
                  try clear c164b2
                  try clear c245
                  try clear c247
                  try clear c249
                  try clear c249b0
                  try clear c249b1
                  try clear c250
                  try clear c250b0
                  try clear c250b1
                  try clear c251
                  try clear c251b0
                  try clear c251b1
                  try clear c253
                  try clear c253b0
                  try clear c253b1
                  try clear c255
                  try clear c255b0
                  try clear c255b1
                  try clear c257
                  try clear c257b0
                  try clear c257b1
                  try clear c259
                  try clear c259b0
                  try clear c259b1
                  try clear c286
                  try clear p2
                  try clear p6
                  try clear p64
                  obtain ⟨x42_3, x329_3, rfl, rfl, HA, HK3, HO_6, HO_10, HO_18, HO_327, HB⟩ := hrel
                  cases gk with
                  | zero => exact absurd HA.out (by simp [laws_FnGoodPathsSorted.l0])
                  | succ k3 =>
                    have H := HA.out
                    clear HA
                    simp only [laws_FnGoodPathsSorted.l0] at H
                    by_cases c290 : x329_3 < (t396.length : Int)
                    · rw [if_pos c290] at H
                      have c290b0 : decide (x329_3 < (t396.length : Int)) = true := decide_eq_true c290
                      clear c290
                      by_cases c291 : 0 ≤ x329_3
                      · rw [if_pos c291] at H
                        have c291b0 : decide (0 ≤ x329_3) = true := decide_eq_true c291
                        clear c291
                        by_cases c292 : x329_3 < (t396.length : Int)
                        · rw [if_pos c292] at H
                          have c292b0 : decide (x329_3 < (t396.length : Int)) = true := decide_eq_true c292
                          clear c292
                          by_cases c293 : (rd t396 x329_3) > 0
                          · rw [if_pos c293] at H
                            have c293b0 : decide (0 < (rd t396 x329_3)) = true := decide_eq_true c293
                            clear c293
                            by_cases c294 : (Int.tmod (wrap64 (x329_3 - t371)) 2) = 0
                            · rw [if_pos c294] at H
                              have c294b0 : ((Int.tmod (wrap64 (x329_3 - t371)) 2) == 0) = true := beq_iff_eq.mpr c294
                              have c294b1 : ((Int.tmod (wrap64 (x329_3 - t371)) 2) != 0) = false := bne_eq_false_iff_eq.mpr c294
                              clear c294
                              have H' := Aside0.mk H
                              clear H
                              have p438 : 0 ≤ (x329_3 : Int) := of_decide_eq_true (by first | (with_reducible assumption) | assumption)
                              have q438 : x329_3 < (t396.length : Int) := of_decide_eq_true (by first | (with_reducible assumption) | assumption)
                              obtain ⟨ad438, e438, hx438_0⟩ := Kd.at_int (Kd.R_reads' HO_327.out).2.2 x329_3 p438 q438
                              cases e438
                              replace p438 := eq_true p438
                              replace q438 := eq_true q438
                              go_wp2
                              repeat (go_quiet (fail); try go_wp2)
                              go_roundg k3
                              case measure => have := HJ21.out; have := HJ247.out; have := HK3.out; omega
                              case rel => exact ⟨(wrap64 (x42_3 + (wrap64 (x329_3 * (rd t396 x329_3))))), (wrap64 (x329_3 + 1)), (by first | rfl | (simp; done) | (simp [*]; done)), (by first | rfl | (simp; done) | (simp [*]; done)), H', ⟨by have := HJ21.out; have := HJ247.out; have := HK3.out; omega⟩, ⟨by (with_reducible repeat (first | apply Kd.R_alloc | apply Kd.R_drewN | apply Kd.R_drew)); exact HO_6.out⟩, ⟨by (with_reducible repeat (first | apply Kd.R_alloc | apply Kd.R_drewN | apply Kd.R_drew)); exact HO_10.out⟩, ⟨by (with_reducible repeat (first | apply Kd.R_alloc | apply Kd.R_drewN | apply Kd.R_drew)); exact HO_18.out⟩, ⟨by (with_reducible repeat (first | apply Kd.R_alloc | apply Kd.R_drewN | apply Kd.R_drew)); exact HO_327.out⟩, ⟨by repeat (first | (with_reducible first | exact HB.out | apply below_alloc | apply pw_below_drewN | apply below_drew1) | exact HB.out)⟩⟩
                            · rw [if_neg c294] at H
                              have c294b0 : ((Int.tmod (wrap64 (x329_3 - t371)) 2) == 0) = false := beq_eq_false_iff_ne.mpr c294
                              have c294b1 : ((Int.tmod (wrap64 (x329_3 - t371)) 2) != 0) = true := bne_iff_ne.mpr c294
                              (first | exact absurd H (by simp; done) | exact absurd H laws_FnGoodPathsSorted.j0_no | exact absurd H laws_FnGoodPathsSorted.j7_no | exact absurd H laws_FnGoodPathsSorted.j1_no | exact absurd H laws_FnGoodPathsSorted.j4_no)
                          · rw [if_neg c293] at H
                            have c293b0 : decide (0 < (rd t396 x329_3)) = false := decide_eq_false c293
                            clear c293
                            have H' := Aside0.mk H
                            clear H
                            have p438 : 0 ≤ (x329_3 : Int) := of_decide_eq_true (by first | (with_reducible assumption) | assumption)
                            have q438 : x329_3 < (t396.length : Int) := of_decide_eq_true (by first | (with_reducible assumption) | assumption)
                            obtain ⟨ad438, e438, hx438_0⟩ := Kd.at_int (Kd.R_reads' HO_327.out).2.2 x329_3 p438 q438
                            cases e438
                            replace p438 := eq_true p438
                            replace q438 := eq_true q438
                            go_wp2
                            repeat (go_quiet (fail); try go_wp2)
                            go_roundg k3
                            case measure => have := HJ21.out; have := HJ247.out; have := HK3.out; omega
                            case rel => exact ⟨(wrap64 (x42_3 + (wrap64 (x329_3 * (rd t396 x329_3))))), (wrap64 (x329_3 + 1)), (by first | rfl | (simp; done) | (simp [*]; done)), (by first | rfl | (simp; done) | (simp [*]; done)), H', ⟨by have := HJ21.out; have := HJ247.out; have := HK3.out; omega⟩, ⟨by (with_reducible repeat (first | apply Kd.R_alloc | apply Kd.R_drewN | apply Kd.R_drew)); exact HO_6.out⟩, ⟨by (with_reducible repeat (first | apply Kd.R_alloc | apply Kd.R_drewN | apply Kd.R_drew)); exact HO_10.out⟩, ⟨by (with_reducible repeat (first | apply Kd.R_alloc | apply Kd.R_drewN | apply Kd.R_drew)); exact HO_18.out⟩, ⟨by (with_reducible repeat (first | apply Kd.R_alloc | apply Kd.R_drewN | apply Kd.R_drew)); exact HO_327.out⟩, ⟨by repeat (first | (with_reducible first | exact HB.out | apply below_alloc | apply pw_below_drewN | apply below_drew1) | exact HB.out)⟩⟩
                        · rw [if_neg c292] at H
                          exact absurd H (by simp)
                      · rw [if_neg c291] at H
                        exact absurd H (by simp)
                    · rw [if_neg c290] at H
                      have c290b0 : decide (x329_3 < (t396.length : Int)) = false := decide_eq_false c290
                      clear c290
                      have H' := Aside0.mk H
                      clear H
                      obtain ⟨Ao295, co295, eo295⟩ := Kd.R_slice HO_10.out
                      subst eo295
                      go_wp2
                      repeat (go_quiet (fail); try go_wp2)
                      go_loopg [43, 351] k3 (fun kq v43 v351 w' => ∃ (x43_4 : Int) (x351_4 : Int), v43 = .int .i64 x43_4 ∧ v351 = .int .i64 x351_4 ∧ Aside0 (laws_FnGoodPathsSorted.l1 kq l1 t371 t372 t380 t396 t412 t416 t420 t434 t435 t436 t437 x42_3 x43_4 t380 (t380.length : Int) x351_4 = some true) ∧ Aside0 (kq ≤ k3) ∧ Aside0 (Kd.R (Kd.int .i64) 3 w' w.heap.size (fun k_ => some k_ ≠ ((.slice Ao295 t380.length co295) : Value).ownBlock ∧ some k_ ≠ ((.slice Ao289 t396.length co289) : Value).ownBlock ∧ some k_ ≠ ((.slice Ao295 t380.length co295) : Value).ownBlock) v374 t372) ∧ Aside0 (Kd.R (Kd.int .i64) 3 w' w.heap.size (fun k_ => some k_ ≠ (v374 : Value).ownBlock ∧ some k_ ≠ ((.slice Ao289 t396.length co289) : Value).ownBlock) (.slice Ao295 t380.length co295) t380) ∧ Aside0 (Kd.R (Kd.int .i64) 3 w' w.heap.size (fun k_ => some k_ ≠ (v374 : Value).ownBlock ∧ some k_ ≠ ((.slice Ao295 t380.length co295) : Value).ownBlock ∧ some k_ ≠ ((.slice Ao295 t380.length co295) : Value).ownBlock) (.slice Ao289 t396.length co289) t396) ∧ Aside0 (Kd.R (Kd.int .i64) 3 w' w.heap.size (fun k_ => some k_ ≠ (v374 : Value).ownBlock ∧ some k_ ≠ ((.slice Ao289 t396.length co289) : Value).ownBlock) (.slice Ao295 t380.length co295) t380) ∧ Aside0 (Below w.heap.size w w'))
                      case atStart => exact ⟨(0), (0), (by first | rfl | (simp; done) | (simp [*]; done)), (by first | rfl | (simp; done) | (simp [*]; done)), H', ⟨Nat.le_refl _⟩, ⟨by (with_reducible repeat (first | apply Kd.R_alloc | apply Kd.R_drewN | apply Kd.R_drew)); exact Kd.R_mono HO_6.out (fun _ hk => ⟨hk.1, ⟨hk.2.1, hk.1⟩⟩)⟩, ⟨by (with_reducible repeat (first | apply Kd.R_alloc | apply Kd.R_drewN | apply Kd.R_drew)); exact Kd.R_mono HO_10.out (fun _ hk => ⟨hk.1, hk.2.1⟩)⟩, ⟨by (with_reducible repeat (first | apply Kd.R_alloc | apply Kd.R_drewN | apply Kd.R_drew)); exact Kd.R_mono HO_18.out (fun _ hk => ⟨hk.1, ⟨hk.2, hk.2⟩⟩)⟩, ⟨by (with_reducible repeat (first | apply Kd.R_alloc | apply Kd.R_drewN | apply Kd.R_drew)); exact Kd.R_mono HO_10.out (fun _ hk => ⟨hk.1, hk.2.1⟩)⟩, ⟨by repeat (first | (with_reducible first | exact HB.out | apply below_alloc | apply pw_below_drewN | apply below_drew1) | exact HB.out)⟩⟩
                      case round =>
                        clear H'
                        try clear c1
                        try clear c2
                        try clear p2
                        try clear c3
                        try clear c4
                        try clear p4
                        try clear q4
                        try clear hx4
                        try clear c5
                        try clear c6
                        try clear p6
                        try clear c7
                        try clear c8
                        try clear c9
                        try clear c10
                        try clear c12
                        try clear c13
                        try clear c14
                        try clear c15
                        try clear c16
                        try clear c24
                        try clear c25
                        try clear c28
                        try clear c29
                        try clear c38
                        try clear c38b0
                        try clear c38b1
                        try clear c38b2
                        try clear c40
                        try clear c41
                        try clear c41b0
                        try clear c41b1
                        try clear c41b2
                        try clear p43
                        try clear q43
                        try clear hx43
                        try clear c45
                        try clear c46
                        try clear c46b0
                        try clear c46b1
                        try clear c46b2
                        try clear c52
                        try clear c53
                        try clear c53b0
                        try clear c53b1
                        try clear c53b2
                        try clear c61
                        try clear c62
                        try clear c62b0
                        try clear c62b1
                        try clear c62b2
                        try clear p64
                        try clear c72
                        try clear c73
                        try clear c73b0
                        try clear c73b1
                        try clear c73b2
                        try clear c84
                        try clear c84b0
                        try clear c84b1
                        try clear c85
                        try clear c85b0
                        try clear c85b1
                        try clear c85b2
                        try clear c96
                        try clear c96b0
                        try clear c96b1
                        try clear c97
                        try clear c97b0
                        try clear c97b1
                        try clear c97b2
                        try clear c108
                        try clear c108b0
                        try clear c108b1
                        try clear c109
                        try clear c109b0
                        try clear c109b1
                        try clear c109b2
                        try clear c120
                        try clear c120b0
                        try clear c120b1
                        try clear c120b2
                        try clear c131
                        try clear c131b0
                        try clear c131b1
                        try clear c131b2
                        try clear c142
                        try clear c142b0
                        try clear c142b1
                        try clear c142b2
                        try clear c153
                        try clear c153b0
                        try clear c153b1
                        try clear c153b2
                        try clear c164
                        try clear c164b0
                        try clear c164b1
                        try clear c164b2
                        try clear c245
                        try clear c247
                        try clear c249
                        try clear c249b0
                        try clear c249b1
                        try clear c250
                        try clear c250b0
                        try clear c250b1
                        try clear c251
                        try clear c251b0
                        try clear c251b1
                        try clear c253
                        try clear c253b0
                        try clear c253b1
                        try clear c255
                        try clear c255b0
                        try clear c255b1
                        try clear c257
                        try clear c257b0
                        try clear c257b1
                        try clear c259
                        try clear c259b0
                        try clear c259b1
                        try clear c286
                        try clear c290
                        try clear c290b0
                        try clear c291
                        try clear c291b0
                        try clear c292
                        try clear c292b0
                        try clear c293
                        try clear c293b0
                        try clear c294
                        try clear c294b0
                        try clear c294b1
                        try clear hx438_0
                        try clear p2
                        try clear p438
                        try clear p6
                        try clear p64
                        try clear q438
                        obtain ⟨x43_4, x351_4, rfl, rfl, HA, HK4, HO_6, HO_10, HO_18, HO_349, HB⟩ := hrel
                        cases gk with
                        | zero => exact absurd HA.out (by simp [laws_FnGoodPathsSorted.l1])
                        | succ k4 =>
                          have H := HA.out
                          clear HA
                          simp only [laws_FnGoodPathsSorted.l1] at H
                          by_cases c296 : x351_4 < (t380.length : Int)
                          · rw [if_pos c296] at H
                            have c296b0 : decide (x351_4 < (t380.length : Int)) = true := decide_eq_true c296
                            clear c296
                            by_cases c297 : 0 ≤ x351_4
                            · rw [if_pos c297] at H
                              have c297b0 : decide (0 ≤ x351_4) = true := decide_eq_true c297
                              clear c297
                              by_cases c298 : x351_4 < (t380.length : Int)
                              · rw [if_pos c298] at H
                                have c298b0 : decide (x351_4 < (t380.length : Int)) = true := decide_eq_true c298
                                clear c298
                                have H' := Aside0.mk H
                                clear H
                                have p439 : 0 ≤ (x351_4 : Int) := of_decide_eq_true (by first | (with_reducible assumption) | assumption)
                                have q439 : x351_4 < (t380.length : Int) := of_decide_eq_true (by first | (with_reducible assumption) | assumption)
                                obtain ⟨ad439, e439, hx439_0⟩ := Kd.at_int (Kd.R_reads' HO_349.out).2.2 x351_4 p439 q439
                                cases e439
                                replace p439 := eq_true p439
                                replace q439 := eq_true q439
                                go_wp2
                                repeat (go_quiet (fail); try go_wp2)
                                go_roundg k4
                                case measure => have := HJ21.out; have := HJ247.out; have := HK3.out; have := HK4.out; omega
                                case rel => exact ⟨(wrap64 (x43_4 + (wrap64 (x351_4 * (rd t380 x351_4))))), (wrap64 (x351_4 + 1)), (by first | rfl | (simp; done) | (simp [*]; done)), (by first | rfl | (simp; done) | (simp [*]; done)), H', ⟨by have := HJ21.out; have := HJ247.out; have := HK3.out; have := HK4.out; omega⟩, ⟨by (with_reducible repeat (first | apply Kd.R_alloc | apply Kd.R_drewN | apply Kd.R_drew)); exact HO_6.out⟩, ⟨by (with_reducible repeat (first | apply Kd.R_alloc | apply Kd.R_drewN | apply Kd.R_drew)); exact HO_10.out⟩, ⟨by (with_reducible repeat (first | apply Kd.R_alloc | apply Kd.R_drewN | apply Kd.R_drew)); exact HO_18.out⟩, ⟨by (with_reducible repeat (first | apply Kd.R_alloc | apply Kd.R_drewN | apply Kd.R_drew)); exact HO_349.out⟩, ⟨by repeat (first | (with_reducible first | exact HB.out | apply below_alloc | apply pw_below_drewN | apply below_drew1) | exact HB.out)⟩⟩
                              · rw [if_neg c298] at H
                                exact absurd H (by simp)
                            · rw [if_neg c297] at H
                              exact absurd H (by simp)
                          · rw [if_neg c296] at H
                            have c296b0 : decide (x351_4 < (t380.length : Int)) = false := decide_eq_false c296
                            clear c296
                            have HC299 := Aside0.mk H
                            clear H
                            go_upto_region 40 with (fail)
                            repeat (go_quiet (fail); go_upto_region 40 with (fail))
                            go_cut [399] from 362 to 398 (fun v399 wc => ∃ (kq : Nat) (x399_298 : Bool), v399 = .bool x399_298 ∧ Aside0 (laws_FnGoodPathsSorted.j4 kq l1 t371 t372 t380 x399_298 = some true) ∧ Aside0 (kq ≤ k4) ∧ Aside0 (Kd.R (Kd.int .i64) 3 wc w.heap.size (fun k_ => some k_ ≠ ((.slice Ao295 t380.length co295) : Value).ownBlock) v374 t372) ∧ Aside0 (Kd.R (Kd.int .i64) 3 wc w.heap.size (fun k_ => some k_ ≠ (v374 : Value).ownBlock) (.slice Ao295 t380.length co295) t380) ∧ Aside0 (Below w.heap.size w wc))
                            case first =>
                              have H := HC299.out
                              clear HC299
                              by_cases c300 : t435 = true
                              · subst c300
                                rw [if_pos rfl] at H
                                by_cases c301 : t434 = t412
                                · rw [if_pos c301] at H
                                  have c301b0 : (t434 == t412) = true := beq_iff_eq.mpr c301
                                  have c301b1 : (t434 != t412) = false := bne_eq_false_iff_eq.mpr c301
                                  clear c301
                                  (first | rw [c301b0] | (simp only [i64_w, i32_w]; rw [c301b0]) | skip)
                                  by_cases c302 : t437 = true
                                  · subst c302
                                    rw [if_pos rfl] at H
                                    by_cases c303 : x42_3 = t416
                                    · rw [if_pos c303] at H
                                      have c303b0 : (x42_3 == t416) = true := beq_iff_eq.mpr c303
                                      have c303b1 : (x42_3 != t416) = false := bne_eq_false_iff_eq.mpr c303
                                      clear c303
                                      by_cases c304 : x43_4 = t420
                                      · rw [if_pos c304] at H
                                        have c304b0 : (x43_4 == t420) = true := beq_iff_eq.mpr c304
                                        have c304b1 : (x43_4 != t420) = false := bne_eq_false_iff_eq.mpr c304
                                        clear c304
                                        replace H := Option.bind_eq_some_iff.mp H
                                        obtain ⟨t440, A3050, H⟩ := H
                                        (try dsimp only at H)
                                        have A305 := Aside0.mk A3050
                                        clear A3050
                                        by_cases c306 : t416 = (wrap64 (t440 - t436))
                                        · rw [if_pos c306] at H
                                          have c306b0 : (t416 == (wrap64 (t440 - t436))) = true := beq_iff_eq.mpr c306
                                          have c306b1 : (t416 != (wrap64 (t440 - t436))) = false := bne_eq_false_iff_eq.mpr c306
                                          clear c306
                                          obtain ⟨ji307, hji307⟩ : ∃ j_ : Int, (wrap64 (t371 * t371)) = j_ := ⟨_, rfl⟩
                                          replace H : (if 0 ≤ (ji307) then (if (ji307) < (t396.length : Int) then (laws_FnGoodPathsSorted.j4 k4 l1 t371 t372 t380 ((rd t396 (ji307)) != 1)) else (none)) else (none)) = some true := by first | (rw [hji307] at H; exact H) | (simp only [hji307] at H ⊢; exact H)
                                          (try rw [hji307] at A305)
                                          have hji307w : (IntKind.i64.wrap (t371 * t371)) = ji307 := (i64_w _).trans hji307
                                          by_cases c308 : 0 ≤ (ji307)
                                          · rw [if_pos c308] at H
                                            have c308b0 : decide (0 ≤ (ji307)) = true := decide_eq_true c308
                                            clear c308
                                            by_cases c309 : (ji307) < (t396.length : Int)
                                            · rw [if_pos c309] at H
                                              have c309b0 : decide ((ji307) < (t396.length : Int)) = true := decide_eq_true c309
                                              clear c309
                                              have H' := Aside0.mk H
                                              clear H
                                              go_wp2_with (first | (go_at_call 26; (with_reducible refine (laws_yPower.calls k4 4 t371 t440 _ A305.out).mono ?_); rintro e w' ⟨rfl, ⟨nd, rfl⟩⟩; (try first | exact ⟨rfl, _, World.drewN_drewN _ _ _⟩ | exact ⟨rfl, _, Eq.trans (World.drewN_drewN _ _ _) (congrArg (World.drewN _) (Nat.add_assoc _ _ _))⟩); have p441 : 0 ≤ ((ji307) : Int) := of_decide_eq_true (by first | (with_reducible assumption) | assumption); have q441 : (ji307) < (t396.length : Int) := of_decide_eq_true (by first | (with_reducible assumption) | assumption); obtain ⟨ad441, e441, hx441_0⟩ := Kd.at_int (Kd.R_reads' HO_18.out).2.2 (ji307) p441 q441; cases e441; replace p441 := eq_true p441; replace q441 := eq_true q441))
                                              repeat (go_quiet (first | (go_at_call 26; (with_reducible refine (laws_yPower.calls k4 4 t371 t440 _ A305.out).mono ?_); rintro e w' ⟨rfl, ⟨nd, rfl⟩⟩; (try first | exact ⟨rfl, _, World.drewN_drewN _ _ _⟩ | exact ⟨rfl, _, Eq.trans (World.drewN_drewN _ _ _) (congrArg (World.drewN _) (Nat.add_assoc _ _ _))⟩); have p441 : 0 ≤ ((ji307) : Int) := of_decide_eq_true (by first | (with_reducible assumption) | assumption); have q441 : (ji307) < (t396.length : Int) := of_decide_eq_true (by first | (with_reducible assumption) | assumption); obtain ⟨ad441, e441, hx441_0⟩ := Kd.at_int (Kd.R_reads' HO_18.out).2.2 (ji307) p441 q441; cases e441; replace p441 := eq_true p441; replace q441 := eq_true q441)); try go_wp2_with (first | (go_at_call 26; (with_reducible refine (laws_yPower.calls k4 4 t371 t440 _ A305.out).mono ?_); rintro e w' ⟨rfl, ⟨nd, rfl⟩⟩; (try first | exact ⟨rfl, _, World.drewN_drewN _ _ _⟩ | exact ⟨rfl, _, Eq.trans (World.drewN_drewN _ _ _) (congrArg (World.drewN _) (Nat.add_assoc _ _ _))⟩); have p441 : 0 ≤ ((ji307) : Int) := of_decide_eq_true (by first | (with_reducible assumption) | assumption); have q441 : (ji307) < (t396.length : Int) := of_decide_eq_true (by first | (with_reducible assumption) | assumption); obtain ⟨ad441, e441, hx441_0⟩ := Kd.at_int (Kd.R_reads' HO_18.out).2.2 (ji307) p441 q441; cases e441; replace p441 := eq_true p441; replace q441 := eq_true q441)))
                                              go_meet
                                              case rel => exact ⟨_, (((rd t396 (ji307)) != 1)), (by first | rfl | (simp; done) | (simp only [← hji307] <;> (first | rfl | simp)) | (simp [*]; done)), H', ⟨by have := HJ21.out; have := HJ247.out; have := HK3.out; have := HK4.out; first | omega | exact Nat.le_refl _⟩, ⟨by (with_reducible repeat (first | apply Kd.R_alloc | apply Kd.R_drewN | apply Kd.R_drew)); exact Kd.R_mono HO_6.out (fun _ hk => hk.1)⟩, ⟨by (with_reducible repeat (first | apply Kd.R_alloc | apply Kd.R_drewN | apply Kd.R_drew)); exact Kd.R_mono HO_10.out (fun _ hk => hk.1)⟩, ⟨by repeat (first | (with_reducible first | exact HB.out | apply below_alloc | apply pw_below_drewN | apply below_drew1) | exact HB.out)⟩⟩
                                            · rw [if_neg c309] at H
                                              exact absurd H (by simp)
                                          · rw [if_neg c308] at H
                                            exact absurd H (by simp)
                                        · rw [if_neg c306] at H
                                          (first | exact absurd H (by simp; done) | exact absurd H laws_FnGoodPathsSorted.j0_no | exact absurd H laws_FnGoodPathsSorted.j7_no | exact absurd H laws_FnGoodPathsSorted.j1_no | exact absurd H laws_FnGoodPathsSorted.j4_no)
                                      · rw [if_neg c304] at H
                                        (first | exact absurd H (by simp; done) | exact absurd H laws_FnGoodPathsSorted.j0_no | exact absurd H laws_FnGoodPathsSorted.j7_no | exact absurd H laws_FnGoodPathsSorted.j1_no | exact absurd H laws_FnGoodPathsSorted.j4_no)
                                    · rw [if_neg c303] at H
                                      (first | exact absurd H (by simp; done) | exact absurd H laws_FnGoodPathsSorted.j0_no | exact absurd H laws_FnGoodPathsSorted.j7_no | exact absurd H laws_FnGoodPathsSorted.j1_no | exact absurd H laws_FnGoodPathsSorted.j4_no)
                                  · replace c302 := Bool.eq_false_iff.mpr c302
                                    subst c302
                                    rw [if_neg (show ¬ (false = true) by decide)] at H
                                    (first | exact absurd H (by simp; done) | exact absurd H laws_FnGoodPathsSorted.j0_no | exact absurd H laws_FnGoodPathsSorted.j7_no | exact absurd H laws_FnGoodPathsSorted.j1_no | exact absurd H laws_FnGoodPathsSorted.j4_no)
                                · rw [if_neg c301] at H
                                  (first | exact absurd H (by simp; done) | exact absurd H laws_FnGoodPathsSorted.j0_no | exact absurd H laws_FnGoodPathsSorted.j7_no | exact absurd H laws_FnGoodPathsSorted.j1_no | exact absurd H laws_FnGoodPathsSorted.j4_no)
                              · replace c300 := Bool.eq_false_iff.mpr c300
                                subst c300
                                rw [if_neg (show ¬ (false = true) by decide)] at H
                                (first | exact absurd H (by simp; done) | exact absurd H laws_FnGoodPathsSorted.j0_no | exact absurd H laws_FnGoodPathsSorted.j7_no | exact absurd H laws_FnGoodPathsSorted.j1_no | exact absurd H laws_FnGoodPathsSorted.j4_no)
                            case rest =>
                              clear HC299
                              try clear c1
                              try clear c2
                              try clear p2
                              try clear c3
                              try clear c4
                              try clear p4
                              try clear q4
                              try clear hx4
                              try clear c5
                              try clear c6
                              try clear p6
                              try clear c7
                              try clear c8
                              try clear c9
                              try clear c10
                              try clear c12
                              try clear c13
                              try clear c14
                              try clear c15
                              try clear c16
                              try clear c24
                              try clear c25
                              try clear c28
                              try clear c29
                              try clear c30
                              try clear c38
                              try clear c38b0
                              try clear c38b1
                              try clear c38b2
                              try clear c40
                              try clear c41
                              try clear c41b0
                              try clear c41b1
                              try clear c41b2
                              try clear p43
                              try clear q43
                              try clear hx43
                              try clear p44
                              try clear q44
                              try clear hx44
                              try clear c45
                              try clear c46
                              try clear c46b0
                              try clear c46b1
                              try clear c46b2
                              try clear c52
                              try clear c53
                              try clear c53b0
                              try clear c53b1
                              try clear c53b2
                              try clear c61
                              try clear c62
                              try clear c62b0
                              try clear c62b1
                              try clear c62b2
                              try clear p64
                              try clear c72
                              try clear c73
                              try clear c73b0
                              try clear c73b1
                              try clear c73b2
                              try clear c84
                              try clear c84b0
                              try clear c84b1
                              try clear c85
                              try clear c85b0
                              try clear c85b1
                              try clear c85b2
                              try clear c96
                              try clear c96b0
                              try clear c96b1
                              try clear c97
                              try clear c97b0
                              try clear c97b1
                              try clear c97b2
                              try clear c108
                              try clear c108b0
                              try clear c108b1
                              try clear c109
                              try clear c109b0
                              try clear c109b1
                              try clear c109b2
                              try clear c120
                              try clear c120b0
                              try clear c120b1
                              try clear c120b2
                              try clear c131
                              try clear c131b0
                              try clear c131b1
                              try clear c131b2
                              try clear c142
                              try clear c142b0
                              try clear c142b1
                              try clear c142b2
                              try clear c153
                              try clear c153b0
                              try clear c153b1
                              try clear c153b2
                              try clear c164
                              try clear c164b0
                              try clear c164b1
                              try clear c164b2
                              try clear c245
                              try clear c247
                              try clear c249
                              try clear c249b0
                              try clear c249b1
                              try clear c250
                              try clear c250b0
                              try clear c250b1
                              try clear c251
                              try clear c251b0
                              try clear c251b1
                              try clear c253
                              try clear c253b0
                              try clear c253b1
                              try clear c255
                              try clear c255b0
                              try clear c255b1
                              try clear c257
                              try clear c257b0
                              try clear c257b1
                              try clear c259
                              try clear c259b0
                              try clear c259b1
                              try clear c286
                              try clear c290
                              try clear c290b0
                              try clear c291
                              try clear c291b0
                              try clear c292
                              try clear c292b0
                              try clear c293
                              try clear c293b0
                              try clear c294
                              try clear c294b0
                              try clear c294b1
                              try clear c296
                              try clear c296b0
                              try clear c297
                              try clear c297b0
                              try clear c298
                              try clear c298b0
                              try clear c300
                              try clear c301
                              try clear c301b0
                              try clear c301b1
                              try clear c302
                              try clear c303
                              try clear c303b0
                              try clear c303b1
                              try clear c304
                              try clear c304b0
                              try clear c304b1
                              try clear c306
                              try clear c306b0
                              try clear c306b1
                              try clear c308
                              try clear c308b0
                              try clear c309
                              try clear c309b0
                              try clear hx438_0
                              try clear hx439_0
                              try clear hx441_0
                              try clear p2
                              try clear p4
                              try clear p43
                              try clear p438
                              try clear p439
                              try clear p441
                              try clear p6
                              try clear p64
                              try clear q4
                              try clear q43
                              try clear q438
                              try clear q439
                              try clear q441
                              obtain ⟨kq, x399_298, rfl, HA, HJ298, HO_6, HO_10, HB⟩ := hcut
                              cases kq with
                              | zero => exact absurd HA.out (by simp [laws_FnGoodPathsSorted.j4])
                              | succ kj298 =>
                                have H := HA.out
                                clear HA
                                simp only [laws_FnGoodPathsSorted.j4] at H
                                by_cases c310 : x399_298 = true
                                · subst c310
                                  have H1 : (some false) = some true := by rw [if_pos rfl] at H; exact H
                                  clear H
                                  have H := H1
                                  clear H1
                                  (first | exact absurd H (by simp; done) | exact absurd H laws_FnGoodPathsSorted.j0_no | exact absurd H laws_FnGoodPathsSorted.j7_no | exact absurd H laws_FnGoodPathsSorted.j1_no | exact absurd H laws_FnGoodPathsSorted.j4_no)
                                · replace c310 := Bool.eq_false_iff.mpr c310
                                  subst c310
                                  rw [if_neg (show ¬ (false = true) by decide)] at H
                                  have H' := Aside0.mk H
                                  clear H
                                  go_wp2
                                  repeat (go_quiet (fail); try go_wp2)
                                  go_loopg [48] kj298 (fun kq v48 w' => ∃ (x48_6 : Int), v48 = .int .i64 x48_6 ∧ Aside0 (laws_FnGoodPathsSorted.l2 kq l1 t371 t372 t380 x48_6 = some true) ∧ Aside0 (kq ≤ kj298) ∧ Aside0 (Kd.R (Kd.int .i64) 3 w' w.heap.size (fun k_ => some k_ ≠ ((.slice Ao295 t380.length co295) : Value).ownBlock) v374 t372) ∧ Aside0 (Kd.R (Kd.int .i64) 3 w' w.heap.size (fun k_ => some k_ ≠ (v374 : Value).ownBlock) (.slice Ao295 t380.length co295) t380) ∧ Aside0 (Below w.heap.size w w'))
                                  case atStart => exact ⟨(1), (by first | rfl | (simp; done) | (simp [*]; done)), H', ⟨Nat.le_refl _⟩, ⟨by (with_reducible repeat (first | apply Kd.R_alloc | apply Kd.R_drewN | apply Kd.R_drew)); exact HO_6.out⟩, ⟨by (with_reducible repeat (first | apply Kd.R_alloc | apply Kd.R_drewN | apply Kd.R_drew)); exact HO_10.out⟩, ⟨by repeat (first | (with_reducible first | exact HB.out | apply below_alloc | apply pw_below_drewN | apply below_drew1) | exact HB.out)⟩⟩
                                  case round =>
                                    clear H'
                                    try clear c1
                                    try clear c2
                                    try clear p2
                                    try clear c3
                                    try clear c4
                                    try clear p4
                                    try clear q4
                                    try clear hx4
                                    try clear c5
                                    try clear c6
                                    try clear p6
                                    try clear c7
                                    try clear c8
                                    try clear c9
                                    try clear c10
                                    try clear c12
                                    try clear c13
                                    try clear c14
                                    try clear c15
                                    try clear c16
                                    try clear c24
                                    try clear c25
                                    try clear c28
                                    try clear c29
                                    try clear c30
                                    try clear c31
                                    try clear c38
                                    try clear c38b0
                                    try clear c38b1
                                    try clear c38b2
                                    try clear c40
                                    try clear c41
                                    try clear c41b0
                                    try clear c41b1
                                    try clear c41b2
                                    try clear p43
                                    try clear q43
                                    try clear hx43
                                    try clear p44
                                    try clear q44
                                    try clear hx44
                                    try clear c45
                                    try clear c46
                                    try clear c46b0
                                    try clear c46b1
                                    try clear c46b2
                                    try clear c52
                                    try clear c53
                                    try clear c53b0
                                    try clear c53b1
                                    try clear c53b2
                                    try clear c61
                                    try clear c62
                                    try clear c62b0
                                    try clear c62b1
                                    try clear c62b2
                                    try clear p64
                                    try clear c72
                                    try clear c73
                                    try clear c73b0
                                    try clear c73b1
                                    try clear c73b2
                                    try clear c84
                                    try clear c84b0
                                    try clear c84b1
                                    try clear c85
                                    try clear c85b0
                                    try clear c85b1
                                    try clear c85b2
                                    try clear c96
                                    try clear c96b0
                                    try clear c96b1
                                    try clear c97
                                    try clear c97b0
                                    try clear c97b1
                                    try clear c97b2
                                    try clear c108
                                    try clear c108b0
                                    try clear c108b1
                                    try clear c109
                                    try clear c109b0
                                    try clear c109b1
                                    try clear c109b2
                                    try clear c120
                                    try clear c120b0
                                    try clear c120b1
                                    try clear c120b2
                                    try clear c131
                                    try clear c131b0
                                    try clear c131b1
                                    try clear c131b2
                                    try clear c142
                                    try clear c142b0
                                    try clear c142b1
                                    try clear c142b2
                                    try clear c153
                                    try clear c153b0
                                    try clear c153b1
                                    try clear c153b2
                                    try clear c164
                                    try clear c164b0
                                    try clear c164b1
                                    try clear c164b2
                                    try clear c245
                                    try clear c247
                                    try clear c249
                                    try clear c249b0
                                    try clear c249b1
                                    try clear c250
                                    try clear c250b0
                                    try clear c250b1
                                    try clear c251
                                    try clear c251b0
                                    try clear c251b1
                                    try clear c253
                                    try clear c253b0
                                    try clear c253b1
                                    try clear c255
                                    try clear c255b0
                                    try clear c255b1
                                    try clear c257
                                    try clear c257b0
                                    try clear c257b1
                                    try clear c259
                                    try clear c259b0
                                    try clear c259b1
                                    try clear c286
                                    try clear c290
                                    try clear c290b0
                                    try clear c291
                                    try clear c291b0
                                    try clear c292
                                    try clear c292b0
                                    try clear c293
                                    try clear c293b0
                                    try clear c294
                                    try clear c294b0
                                    try clear c294b1
                                    try clear c296
                                    try clear c296b0
                                    try clear c297
                                    try clear c297b0
                                    try clear c298
                                    try clear c298b0
                                    try clear c300
                                    try clear c301
                                    try clear c301b0
                                    try clear c301b1
                                    try clear c302
                                    try clear c303
                                    try clear c303b0
                                    try clear c303b1
                                    try clear c304
                                    try clear c304b0
                                    try clear c304b1
                                    try clear c306
                                    try clear c306b0
                                    try clear c306b1
                                    try clear c308
                                    try clear c308b0
                                    try clear c309
                                    try clear c309b0
                                    try clear c310
                                    try clear hx438_0
                                    try clear hx439_0
                                    try clear hx441_0
                                    try clear p2
                                    try clear p4
                                    try clear p43
                                    try clear p438
                                    try clear p439
                                    try clear p44
                                    try clear p441
                                    try clear p6
                                    try clear p64
                                    try clear q4
                                    try clear q43
                                    try clear q438
                                    try clear q439
                                    try clear q44
                                    try clear q441
                                    obtain ⟨x48_6, rfl, HA, HK6, HO_6, HO_10, HB⟩ := hrel
                                    cases gk with
                                    | zero => exact absurd HA.out (by simp [laws_FnGoodPathsSorted.l2])
                                    | succ k6 =>
                                      have H := HA.out
                                      clear HA
                                      simp only [laws_FnGoodPathsSorted.l2] at H
                                      by_cases c311 : x48_6 ≤ t371
                                      · rw [if_pos c311] at H
                                        have c311b0 : decide (x48_6 ≤ t371) = true := decide_eq_true c311
                                        clear c311
                                        by_cases c312 : 0 ≤ x48_6
                                        · rw [if_pos c312] at H
                                          have c312b0 : decide (0 ≤ x48_6) = true := decide_eq_true c312
                                          clear c312
                                          by_cases c313 : x48_6 < (t372.length : Int)
                                          · rw [if_pos c313] at H
                                            have c313b0 : decide (x48_6 < (t372.length : Int)) = true := decide_eq_true c313
                                            clear c313
                                            obtain ⟨ji314, hji314⟩ : ∃ j_ : Int, (wrap64 ((wrap64 (t371 + 1)) - x48_6)) = j_ := ⟨_, rfl⟩
                                            replace H : (if 0 ≤ (ji314) then (if (ji314) < (t372.length : Int) then (if (rd t372 x48_6) = (rd t372 (ji314)) then ((impl_CountBetween.f k6 t371 t371 0 x48_6).bind fun bt444 => (if bt444.2 = true then (if 0 ≤ (wrap64 (x48_6 + 1)) then (if (wrap64 (x48_6 + 1)) ≤ (t380.length : Int) then ((laws_ySum.f k6 (t380.take ((wrap64 (x48_6 + 1)) : Int).toNat)).bind fun t450 => (if bt444.1 = t450 then (laws_FnGoodPathsSorted.l2 k6 l1 t371 t372 t380 (wrap64 (x48_6 + 1))) else (some false))) else (none)) else (none)) else (some false))) else (some false)) else (none)) else (none)) = some true := by first | (rw [hji314] at H; exact H) | (simp only [hji314] at H ⊢; exact H)
                                            have hji314w : (IntKind.i64.wrap ((wrap64 (t371 + 1)) - x48_6)) = ji314 := (i64_w _).trans hji314
                                            by_cases c315 : 0 ≤ (ji314)
                                            · rw [if_pos c315] at H
                                              have c315b0 : decide (0 ≤ (ji314)) = true := decide_eq_true c315
                                              clear c315
                                              by_cases c316 : (ji314) < (t372.length : Int)
                                              · rw [if_pos c316] at H
                                                have c316b0 : decide ((ji314) < (t372.length : Int)) = true := decide_eq_true c316
                                                clear c316
                                                by_cases c317 : (rd t372 x48_6) = (rd t372 (ji314))
                                                · rw [if_pos c317] at H
                                                  have c317b0 : ((rd t372 x48_6) == (rd t372 (ji314))) = true := beq_iff_eq.mpr c317
                                                  have c317b1 : ((rd t372 x48_6) != (rd t372 (ji314))) = false := bne_eq_false_iff_eq.mpr c317
                                                  clear c317
                                                  replace H := Option.bind_eq_some_iff.mp H
                                                  obtain ⟨⟨t444, t445⟩, A3180, H⟩ := H
                                                  (try dsimp only at H)
                                                  have A318 := Aside0.mk A3180
                                                  clear A3180
                                                  by_cases c319 : t445 = true
                                                  · subst c319
                                                    rw [if_pos rfl] at H
                                                    obtain ⟨ji320, hji320⟩ : ∃ j_ : Int, (wrap64 (x48_6 + 1)) = j_ := ⟨_, rfl⟩
                                                    replace H : (if 0 ≤ (ji320) then (if (ji320) ≤ (t380.length : Int) then ((laws_ySum.f k6 (t380.take ((ji320) : Int).toNat)).bind fun t450 => (if t444 = t450 then (laws_FnGoodPathsSorted.l2 k6 l1 t371 t372 t380 ji320) else (some false))) else (none)) else (none)) = some true := by first | (rw [hji320] at H; exact H) | (simp only [hji320] at H ⊢; exact H)
                                                    (try rw [hji320] at A318)
                                                    have hji320w : (IntKind.i64.wrap (x48_6 + 1)) = ji320 := (i64_w _).trans hji320
                                                    by_cases c321 : 0 ≤ (ji320)
                                                    · rw [if_pos c321] at H
                                                      have c321b0 := eq_true c321
                                                      have c321b1 : decide (0 ≤ (ji320)) = true := decide_eq_true c321
                                                      clear c321
                                                      by_cases c322 : (ji320) ≤ (t380.length : Int)
                                                      · rw [if_pos c322] at H
                                                        have c322b0 := eq_true c322
                                                        have c322b1 : decide ((ji320) ≤ (t380.length : Int)) = true := decide_eq_true c322
                                                        clear c322
                                                        obtain ⟨y446, hy446⟩ : ∃ y_ : List Int, y_ = (t380.take ((ji320) : Int).toNat) := ⟨_, rfl⟩
                                                        replace H : ((laws_ySum.f k6 y446).bind fun t450 => (if t444 = t450 then (laws_FnGoodPathsSorted.l2 k6 l1 t371 t372 t380 ji320) else (some false))) = some true := by first | (rw [hy446]; with_reducible exact H) | (have H2_ := (Option.bind_some _ _).symm.trans H; rw [hy446]; with_reducible exact H2_) | (have H2_ := (Option.bind_some _ _).symm.trans H; with_reducible exact H2_) | with_reducible exact H | (rw [hy446]; exact H) | exact H
                                                        have Ny446 := Aside0.mk hy446
                                                        clear hy446
                                                        replace H := Option.bind_eq_some_iff.mp H
                                                        obtain ⟨t450, A3230, H⟩ := H
                                                        replace H : (if t444 = t450 then (laws_FnGoodPathsSorted.l2 k6 l1 t371 t372 t380 ji320) else (some false)) = some true := H
                                                        have A323 := Aside0.mk A3230
                                                        clear A3230
                                                        by_cases c324 : t444 = t450
                                                        · rw [if_pos c324] at H
                                                          have c324b0 : (t444 == t450) = true := beq_iff_eq.mpr c324
                                                          have c324b1 : (t444 != t450) = false := bne_eq_false_iff_eq.mpr c324
                                                          clear c324
                                                          have H' := Aside0.mk H
                                                          clear H
                                                          obtain ⟨Ao325, co325, eo325⟩ := Kd.R_slice HO_6.out
                                                          subst eo325
                                                          have p442 : 0 ≤ (x48_6 : Int) := of_decide_eq_true (by first | (with_reducible assumption) | assumption)
                                                          have q442 : x48_6 < (t372.length : Int) := of_decide_eq_true (by first | (with_reducible assumption) | assumption)
                                                          obtain ⟨ad442, e442, hx442_0⟩ := Kd.at_int (Kd.R_reads' HO_6.out).2.2 x48_6 p442 q442
                                                          cases e442
                                                          replace p442 := eq_true p442
                                                          replace q442 := eq_true q442
                                                          have p443 : 0 ≤ ((ji314) : Int) := of_decide_eq_true (by first | (with_reducible assumption) | assumption)
                                                          have q443 : (ji314) < (t372.length : Int) := of_decide_eq_true (by first | (with_reducible assumption) | assumption)
                                                          obtain ⟨ad443, e443, hx443_0⟩ := Kd.at_int (Kd.R_reads' HO_6.out).2.2 (ji314) p443 q443
                                                          obtain rfl : ad442 = ad443 := (by injection e443)
                                                          replace p443 := eq_true p443
                                                          replace q443 := eq_true q443
                                                          go_wp2_with (first | (go_at_call 27; (with_reducible refine (impl_CountBetween.calls k6 t371 t371 0 x48_6 t444 true _ A318.out).mono ?_); rintro e w326 ⟨rfl, hb⟩; have n0_ := Aside0.mk (Kd.R_below (by (with_reducible repeat (first | apply Kd.R_alloc | apply Kd.R_drewN | apply Kd.R_drew)); exact HO_6.out) hb); have n1_ := Aside0.mk (Kd.R_below (by (with_reducible repeat (first | apply Kd.R_alloc | apply Kd.R_drewN | apply Kd.R_drew)); exact HO_10.out) hb); have n2_ := Aside0.mk (below_step (by repeat (first | (with_reducible first | exact HB.out | apply below_alloc | apply pw_below_drewN | apply below_drew1) | exact HB.out)) hb); clear HO_6; clear HO_10; clear HB; have HO_6 := n0_; have HO_10 := n1_; have HB := n2_; clear n0_ n1_ n2_; (try clear hb); (try clear hb2); (try clear hk); (try clear hi); have q327 : ((ji320) : Int) ≤ ((t380.length : Int) : Int) := of_decide_eq_true (by first | (with_reducible assumption) | assumption); obtain ⟨i0327, hi0327, _, hsz327, _⟩ := info_parts info3; have hroom327 : t380.length ≤ co295 := (Kd.R_reads' HO_10.out).2.1; have hC327 : Kd.C (Kd.int .i64) _ Ao295 t380.length t380 := (Kd.R_reads' HO_10.out).2.2; have hcut327 := cut_to (P := Tryd.prog) 25 3 .i64 Tryd.underlying25 hi0327 Ao295 t380.length co295 (ji320) (of_decide_eq_true (by first | (with_reducible assumption) | assumption)) q327 hroom327; have hr327 := Kd.C_take (m := ((ji320) : Int).toNat) hC327 (by omega); have hy327 : y446.length = ((ji320) : Int).toNat := (by rw [Ny446.out, List.length_take]; omega); rw [← Ny446.out] at hr327; rw [← hy327] at hcut327; have HR449 := Aside0.mk hr327; have HC449 := Aside0.mk (show y446.length ≤ co295 from by omega); clear hr327 hC327 hroom327 hi0327 hsz327; have KY327 := Aside0.mk hy327; clear hy327; have KL327 := Aside0.mk (show ((ji320) : Int).toNat ≤ t380.length from by omega); replace q327 := eq_true q327) | (go_at_call 23; (with_reducible refine (laws_ySum.calls k6 _ _ y446 t450 _ ?side1 ?side2 A323.out).mono ?_); (case side1 => repeat (first | exact (by repeat (first | (with_reducible exact HR449.out) | (with_reducible refine Kd.C_alloc ?_ _) | (with_reducible refine Kd.C_drewN ?_ _) | (with_reducible refine Kd.C_drew ?_) | exact HR449.out)) | (with_reducible refine Kd.C_alloc ?_ _) | (with_reducible refine Kd.C_drewN ?_ _) | (with_reducible refine Kd.C_drew ?_))); (case side2 => exact HC449.out); rintro e w' ⟨rfl, ⟨nd, rfl⟩⟩; (try first | exact ⟨rfl, _, World.drewN_drewN _ _ _⟩ | exact ⟨rfl, _, Eq.trans (World.drewN_drewN _ _ _) (congrArg (World.drewN _) (Nat.add_assoc _ _ _))⟩)))
                                                          repeat (go_quiet (first | (go_at_call 27; (with_reducible refine (impl_CountBetween.calls k6 t371 t371 0 x48_6 t444 true _ A318.out).mono ?_); rintro e w326 ⟨rfl, hb⟩; have n0_ := Aside0.mk (Kd.R_below (by (with_reducible repeat (first | apply Kd.R_alloc | apply Kd.R_drewN | apply Kd.R_drew)); exact HO_6.out) hb); have n1_ := Aside0.mk (Kd.R_below (by (with_reducible repeat (first | apply Kd.R_alloc | apply Kd.R_drewN | apply Kd.R_drew)); exact HO_10.out) hb); have n2_ := Aside0.mk (below_step (by repeat (first | (with_reducible first | exact HB.out | apply below_alloc | apply pw_below_drewN | apply below_drew1) | exact HB.out)) hb); clear HO_6; clear HO_10; clear HB; have HO_6 := n0_; have HO_10 := n1_; have HB := n2_; clear n0_ n1_ n2_; (try clear hb); (try clear hb2); (try clear hk); (try clear hi); have q327 : ((ji320) : Int) ≤ ((t380.length : Int) : Int) := of_decide_eq_true (by first | (with_reducible assumption) | assumption); obtain ⟨i0327, hi0327, _, hsz327, _⟩ := info_parts info3; have hroom327 : t380.length ≤ co295 := (Kd.R_reads' HO_10.out).2.1; have hC327 : Kd.C (Kd.int .i64) _ Ao295 t380.length t380 := (Kd.R_reads' HO_10.out).2.2; have hcut327 := cut_to (P := Tryd.prog) 25 3 .i64 Tryd.underlying25 hi0327 Ao295 t380.length co295 (ji320) (of_decide_eq_true (by first | (with_reducible assumption) | assumption)) q327 hroom327; have hr327 := Kd.C_take (m := ((ji320) : Int).toNat) hC327 (by omega); have hy327 : y446.length = ((ji320) : Int).toNat := (by rw [Ny446.out, List.length_take]; omega); rw [← Ny446.out] at hr327; rw [← hy327] at hcut327; have HR449 := Aside0.mk hr327; have HC449 := Aside0.mk (show y446.length ≤ co295 from by omega); clear hr327 hC327 hroom327 hi0327 hsz327; have KY327 := Aside0.mk hy327; clear hy327; have KL327 := Aside0.mk (show ((ji320) : Int).toNat ≤ t380.length from by omega); replace q327 := eq_true q327) | (go_at_call 23; (with_reducible refine (laws_ySum.calls k6 _ _ y446 t450 _ ?side1 ?side2 A323.out).mono ?_); (case side1 => repeat (first | exact (by repeat (first | (with_reducible exact HR449.out) | (with_reducible refine Kd.C_alloc ?_ _) | (with_reducible refine Kd.C_drewN ?_ _) | (with_reducible refine Kd.C_drew ?_) | exact HR449.out)) | (with_reducible refine Kd.C_alloc ?_ _) | (with_reducible refine Kd.C_drewN ?_ _) | (with_reducible refine Kd.C_drew ?_))); (case side2 => exact HC449.out); rintro e w' ⟨rfl, ⟨nd, rfl⟩⟩; (try first | exact ⟨rfl, _, World.drewN_drewN _ _ _⟩ | exact ⟨rfl, _, Eq.trans (World.drewN_drewN _ _ _) (congrArg (World.drewN _) (Nat.add_assoc _ _ _))⟩))); try go_wp2_with (first | (go_at_call 27; (with_reducible refine (impl_CountBetween.calls k6 t371 t371 0 x48_6 t444 true _ A318.out).mono ?_); rintro e w326 ⟨rfl, hb⟩; have n0_ := Aside0.mk (Kd.R_below (by (with_reducible repeat (first | apply Kd.R_alloc | apply Kd.R_drewN | apply Kd.R_drew)); exact HO_6.out) hb); have n1_ := Aside0.mk (Kd.R_below (by (with_reducible repeat (first | apply Kd.R_alloc | apply Kd.R_drewN | apply Kd.R_drew)); exact HO_10.out) hb); have n2_ := Aside0.mk (below_step (by repeat (first | (with_reducible first | exact HB.out | apply below_alloc | apply pw_below_drewN | apply below_drew1) | exact HB.out)) hb); clear HO_6; clear HO_10; clear HB; have HO_6 := n0_; have HO_10 := n1_; have HB := n2_; clear n0_ n1_ n2_; (try clear hb); (try clear hb2); (try clear hk); (try clear hi); have q327 : ((ji320) : Int) ≤ ((t380.length : Int) : Int) := of_decide_eq_true (by first | (with_reducible assumption) | assumption); obtain ⟨i0327, hi0327, _, hsz327, _⟩ := info_parts info3; have hroom327 : t380.length ≤ co295 := (Kd.R_reads' HO_10.out).2.1; have hC327 : Kd.C (Kd.int .i64) _ Ao295 t380.length t380 := (Kd.R_reads' HO_10.out).2.2; have hcut327 := cut_to (P := Tryd.prog) 25 3 .i64 Tryd.underlying25 hi0327 Ao295 t380.length co295 (ji320) (of_decide_eq_true (by first | (with_reducible assumption) | assumption)) q327 hroom327; have hr327 := Kd.C_take (m := ((ji320) : Int).toNat) hC327 (by omega); have hy327 : y446.length = ((ji320) : Int).toNat := (by rw [Ny446.out, List.length_take]; omega); rw [← Ny446.out] at hr327; rw [← hy327] at hcut327; have HR449 := Aside0.mk hr327; have HC449 := Aside0.mk (show y446.length ≤ co295 from by omega); clear hr327 hC327 hroom327 hi0327 hsz327; have KY327 := Aside0.mk hy327; clear hy327; have KL327 := Aside0.mk (show ((ji320) : Int).toNat ≤ t380.length from by omega); replace q327 := eq_true q327) | (go_at_call 23; (with_reducible refine (laws_ySum.calls k6 _ _ y446 t450 _ ?side1 ?side2 A323.out).mono ?_); (case side1 => repeat (first | exact (by repeat (first | (with_reducible exact HR449.out) | (with_reducible refine Kd.C_alloc ?_ _) | (with_reducible refine Kd.C_drewN ?_ _) | (with_reducible refine Kd.C_drew ?_) | exact HR449.out)) | (with_reducible refine Kd.C_alloc ?_ _) | (with_reducible refine Kd.C_drewN ?_ _) | (with_reducible refine Kd.C_drew ?_))); (case side2 => exact HC449.out); rintro e w' ⟨rfl, ⟨nd, rfl⟩⟩; (try first | exact ⟨rfl, _, World.drewN_drewN _ _ _⟩ | exact ⟨rfl, _, Eq.trans (World.drewN_drewN _ _ _) (congrArg (World.drewN _) (Nat.add_assoc _ _ _))⟩))))
                                                          go_roundg k6
                                                          case measure => have := HJ21.out; have := HJ247.out; have := HK3.out; have := HK4.out; have := HJ298.out; have := HK6.out; omega
                                                          case rel => exact ⟨(ji320), (by first | rfl | (simp; done) | (simp only [← hji320] <;> (first | rfl | simp)) | (simp [*]; done)), H', ⟨by have := HJ21.out; have := HJ247.out; have := HK3.out; have := HK4.out; have := HJ298.out; have := HK6.out; omega⟩, ⟨by (with_reducible repeat (first | apply Kd.R_alloc | apply Kd.R_drewN | apply Kd.R_drew)); exact HO_6.out⟩, ⟨by (with_reducible repeat (first | apply Kd.R_alloc | apply Kd.R_drewN | apply Kd.R_drew)); exact HO_10.out⟩, ⟨by repeat (first | (with_reducible first | exact HB.out | apply below_alloc | apply pw_below_drewN | apply below_drew1) | exact HB.out)⟩⟩
                                                        · rw [if_neg c324] at H
                                                          have c324b0 : (t444 == t450) = false := beq_eq_false_iff_ne.mpr c324
                                                          have c324b1 : (t444 != t450) = true := bne_iff_ne.mpr c324
                                                          (first | exact absurd H (by simp; done) | exact absurd H laws_FnGoodPathsSorted.j0_no | exact absurd H laws_FnGoodPathsSorted.j7_no | exact absurd H laws_FnGoodPathsSorted.j1_no | exact absurd H laws_FnGoodPathsSorted.j4_no)
                                                      · rw [if_neg c322] at H
                                                        exact absurd H (by simp)
                                                    · rw [if_neg c321] at H
                                                      exact absurd H (by simp)
                                                  · replace c319 := Bool.eq_false_iff.mpr c319
                                                    subst c319
                                                    have H1 : (some false) = some true := by rw [if_neg (show ¬ (false = true) by decide)] at H; exact H
                                                    clear H
                                                    have H := H1
                                                    clear H1
                                                    (first | exact absurd H (by simp; done) | exact absurd H laws_FnGoodPathsSorted.j0_no | exact absurd H laws_FnGoodPathsSorted.j7_no | exact absurd H laws_FnGoodPathsSorted.j1_no | exact absurd H laws_FnGoodPathsSorted.j4_no)
                                                · rw [if_neg c317] at H
                                                  have c317b0 : ((rd t372 x48_6) == (rd t372 (ji314))) = false := beq_eq_false_iff_ne.mpr c317
                                                  have c317b1 : ((rd t372 x48_6) != (rd t372 (ji314))) = true := bne_iff_ne.mpr c317
                                                  (first | exact absurd H (by simp; done) | exact absurd H laws_FnGoodPathsSorted.j0_no | exact absurd H laws_FnGoodPathsSorted.j7_no | exact absurd H laws_FnGoodPathsSorted.j1_no | exact absurd H laws_FnGoodPathsSorted.j4_no)
                                              · rw [if_neg c316] at H
                                                exact absurd H (by simp)
                                            · rw [if_neg c315] at H
                                              exact absurd H (by simp)
                                          · rw [if_neg c313] at H
                                            exact absurd H (by simp)
                                        · rw [if_neg c312] at H
                                          exact absurd H (by simp)
                                      · rw [if_neg c311] at H
                                        have c311b0 : decide (x48_6 ≤ t371) = false := decide_eq_false c311
                                        clear c311
                                        have H' := Aside0.mk H
                                        clear H
                                        go_wp2
                                        repeat (go_quiet (fail); try go_wp2)
                                        go_meet
                                        case rel => exact ⟨_, H', ⟨by have := HJ21.out; have := HJ247.out; have := HK3.out; have := HK4.out; have := HJ298.out; have := HK6.out; first | omega | exact Nat.le_refl _⟩, ⟨by repeat (first | (with_reducible first | exact HB.out | apply below_alloc | apply pw_below_drewN | apply below_drew1) | exact HB.out)⟩⟩
        · replace c247 := Bool.eq_false_iff.mpr c247
          subst c247
          have H1 : (laws_FnGoodPathsSorted.j6 kj21 l1) = some true := by rw [if_neg (show ¬ (false = true) by decide)] at H; exact H
          clear H
          have H := H1
          clear H1
          have H' := Aside0.mk H
          clear H
          go_wp2
          repeat (go_quiet (fail); try go_wp2)
          go_meet
          case rel => exact ⟨_, H', ⟨by have := HJ21.out; first | omega | exact Nat.le_refl _⟩, ⟨by repeat (first | (with_reducible first | exact HB.out | apply below_alloc | apply pw_below_drewN | apply below_drew1) | exact HB.out)⟩⟩
      case rest =>
        refine (‹∀ (a : Act) (w : World), Code.wp Tryd.prog _ _ a w → _›) _ _ ?_
        exact law_path k A0 c0 l0 A1 c1 l1 w wc HR0 HC0 HR1 HC1 ⟨Nat.zero_le _⟩ kj21 hcut _ _ _ _ _ _ _ _ _ _ _ _ _ _ _ _ _ _ _ _ _ _ _ _ _ _ _ _ _ _ _ _ _ _ _ _ _ _ _ _ _ _ _ _ _ _ _ _ _ _ _ _ _ _ _ _ _ _ _ _ _ _ _ _ _ _ _ _ _ _ _ _ _ _ _ _ _ _ _ _ _ _ _ _ _ _ _ _ _ _ _ _ _ _ _ _ _ _ _ _ _ _ _ _ _ _ _ _ _ _ _ _ _ _ _ _ _ _ _ _ _ _ _ _ _ _ _ _ _ _ _ _ _ _ _ _ _ _ _ _ _ _ _ _ _ _ _ _ _ _ _ _ _ _ _ _ _ _ _ _ _ _ _ _ _ _ _ _ _ _ _ _ _ _ _ _ _ _ _ _ _ _ _ _ _ _ _ _ _ _ _ _ _ _ _ _ _ _ _ _ _ _ _ _ _ _ _ _ _ _ _ _ _ _ _ _ _ _ _ _ _ _ _ _ _ _ _ _ _ _ _ _ _ _ _ _ _ _ _ _ _ _ _ _ _ _ _ _ _ _ _ _ _ _ _ _ _ _ _ _ _ _ _ _ _ _ _ _ _ _ _ _ _ _ _ _ _ _ _ _ _ _ _ _ _ _ _ _ _ _ _ _ _ _ _ _ _ _ _ _ _ _ _ _ _ _ _ _ _ _ _ _ _ _ _ _ _ _ _ _ _ _ _ _ _ _ _ _ _ _ _ _ _ _ _ _ _ _ _ _ _ _ _ _ _ _ _ _ _ _ _ _ _ _ _ _ _ _ _ _ _ _ _ _ _ _ _ _ _ _ _ _ _ _ _ _ _ _ _ _ _ _ _ _ _ _ _ _ _ _ _ _ _ _ _ _ _ _ _ _ _ _ _ _ _ _ _ _ _ _ _ _ _ _ _ _ _ _ _ _ _ _ _ _ _ _ _ _ _ _ _ _ _ _ _ _ _ _ _ _ _ _ _ _ _ _ _ _ _ _ _ _ _ _ _ _ _ _ _ _ _ _ _ _ _ _ _ _ _ _ _ _ _ _ _ _ _ _ _ _ _ _ _ _ _
end Go.Proofs.YtjjkglfpcdedlabDoor.QFnGoodPathsSorted
