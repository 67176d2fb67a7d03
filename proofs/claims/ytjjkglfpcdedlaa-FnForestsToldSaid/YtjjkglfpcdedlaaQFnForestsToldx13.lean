/- Written by programs of this repo (xprint, lawcut, fo_lawsplit); Lean checks all of it. -/
import Derived.Test.YtjjkglfpcdedlaaQFnForestsToldx12
namespace Go.Proofs.Ytjjkglfpcdedlaa.QFnForestsTold
open Go.RowKit Go.Proofs.YtjjkglfpcdedlaaZ Go.Proofs.YtjjkglfpcdedlaaZg Go.Proofs.YtjjkglfpcdedlaaW.PrintWords Go.Proofs.YtjjkglfpcdedlaaW.PrintLast Go.Proofs.YtjjkglfpcdedlaaW.PrintMore
attribute [local go_sem] max2_int min2_int max_two min_two max_three min_three max_four min_four   -- for this text's walks alone
set_option linter.unusedVariables false
set_option linter.unusedSimpArgs false

theorem wp_cond_no {P : Program} {t : Operand} {A : Code} {Q : Exit → Act → World → Prop} {a : Act} {w : World} (h : a.eval t = .bool false) (hQ : Q .normal a w) : Code.wp P (.cond t A .skip) Q a w := wp_cond_false h (wp_skip hQ)
def sk : Nat → Code → Code
 | 0, c => c
 | n + 1, .seq _ b => sk n b
 | _ + 1, c => c
set_option maxHeartbeats 8000000 in
set_option maxRecDepth 1000000 in
theorem law_path (k : Nat) (A0 : Option Addr) (c0 : Nat) (l0 : List Int) (A1 : Option Addr) (c1 : Nat) (l1 : List Int) (w wc : World) (HR0 : Aside0 (Kd.C (Kd.int .u8) w A0 l0.length l0)) (HC0 : Aside0 (l0.length ≤ c0)) (HR1 : Aside0 (Kd.C (Kd.int .u8) w A1 l1.length l1)) (HC1 : Aside0 (l1.length ≤ c1)) (HJ15 : Aside0 (0 ≤ k)) (kj15 : Nat) (hcut : ∃ (kq : Nat), Aside0 (laws_FnForestsTold.j4 kq l1 = some true) ∧ Aside0 (kq ≤ kj15) ∧ Aside0 (Below w.heap.size w wc)) (u2 u3 u4 u5 u6 u7 u8 u9 u10 u11 u12 u13 u14 u15 u16 u17 u18 u19 u20 u21 u22 u23 u24 u25 u26 u27 u28 u29 u30 u31 u32 u33 u34 u35 u36 u37 u38 u39 u40 u41 u42 u43 u44 u45 u46 u47 u48 u49 u50 u51 u52 u53 u54 u55 u56 u57 u58 u59 u60 u61 u62 u63 u64 u65 u66 u67 u68 u69 u70 u71 u72 u73 u74 u75 u76 u77 u78 u79 u80 u81 u82 u83 u84 u85 u86 u87 u88 u89 u90 u91 u92 u93 u94 u95 u96 u97 u98 u99 u100 u101 u102 u103 u104 u105 u106 u107 u108 u109 u110 u111 u112 u113 u114 u115 u116 u117 u118 u119 u120 u121 u122 u123 u124 u125 u126 u127 u128 u129 u130 u131 u132 u133 u134 u135 u136 u137 u138 u139 u140 u141 u142 u143 u144 u145 u146 u147 u148 u149 u150 u151 u152 u153 u154 u155 u156 u157 u158 u159 u160 u161 u162 u163 u164 u165 u166 u167 u168 u169 u170 u171 u172 u173 u174 u175 u176 u177 u178 u179 u180 u181 u182 u183 u184 u185 u186 u187 u188 u189 u190 u191 u192 u193 u194 u195 u196 u197 u198 u199 u200 u201 u202 u203 u204 u205 u206 u207 u208 u209 u210 u211 u212 u213 u214 u215 u216 u217 u218 u219 u220 u221 u222 u223 u224 u225 u226 u227 u228 u229 u230 u231 u232 u233 u234 u235 u236 u237 u238 u239 u240 u241 u242 u243 u244 u245 u246 u247 u248 u249 u250 u251 u252 u253 u254 u255 u256 u257 u258 u259 u260 u261 u262 u263 u264 u265 u266 u267 u268 u269 u270 u271 u272 u273 u274 u275 u276 u277 u278 u279 u280 u281 u282 u283 u284 u285 u286 u287 u288 u289 u290 u291 u292 u293 u294 u295 u296 u297 u298 u299 u300 u301 u302 u303 u304 u305 u306 u307 u308 u309 u310 u311 u312 u313 u314 u315 u316 u317 u318 u319 u320 u321 u322 u323 u324 u325 u326 u327 u328 u329 u330 u331 u332 u333 u334 u335 u336 u337 u338 u339 u340 u341 u342 u343 u344 u345 u346 u347 u348 u349 u350 u351 u352 u353 u354 u355 u356 u357 u358 u359 u360 u361 u362 u363 u364 u365 u366 u367 u368 u369 u370 u371 u372 u373 u374 u375 u376 u377 u378 u379 u380 u381 u382 u383 u384 u385 u386 u387 u388 u389 u390 u391 u392 u393 u394 u395 u396 u397 u398 u399 u400 u401 u402 u403 u404 u405 u406 u407 u408 u409 u410 u411 u412 u413 : Value) :
  Code.wp Try.prog (sk 15 (Try.f3.body.getD .skip)) (bodyPost Try.prog Try.f3 (fun e w' => e = .returned (.bool true) ∧ Below w.heap.size w w')) ⟨#[.slice A0 l0.length c0, .slice A1 l1.length c1, u2, u3, u4, u5, u6, u7, u8, u9, u10, u11, u12, u13, u14, u15, u16, u17, u18, u19, u20, u21, u22, u23, u24, u25, u26, u27, u28, u29, u30, u31, u32, u33, u34, u35, u36, u37, u38, u39, u40, u41, u42, u43, u44, u45, u46, u47, u48, u49, u50, u51, u52, u53, u54, u55, u56, u57, u58, u59, u60, u61, u62, u63, u64, u65, u66, u67, u68, u69, u70, u71, u72, u73, u74, u75, u76, u77, u78, u79, u80, u81, u82, u83, u84, u85, u86, u87, u88, u89, u90, u91, u92, u93, u94, u95, u96, u97, u98, u99, u100, u101, u102, u103, u104, u105, u106, u107, u108, u109, u110, u111, u112, u113, u114, u115, u116, u117, u118, u119, u120, u121, u122, u123, u124, u125, u126, u127, u128, u129, u130, u131, u132, u133, u134, u135, u136, u137, u138, u139, u140, u141, u142, u143, u144, u145, u146, u147, u148, u149, u150, u151, u152, u153, u154, u155, u156, u157, u158, u159, u160, u161, u162, u163, u164, u165, u166, u167, u168, u169, u170, u171, u172, u173, u174, u175, u176, u177, u178, u179, u180, u181, u182, u183, u184, u185, u186, u187, u188, u189, u190, u191, u192, u193, u194, u195, u196, u197, u198, u199, u200, u201, u202, u203, u204, u205, u206, u207, u208, u209, u210, u211, u212, u213, u214, u215, u216, u217, u218, u219, u220, u221, u222, u223, u224, u225, u226, u227, u228, u229, u230, u231, u232, u233, u234, u235, u236, u237, u238, u239, u240, u241, u242, u243, u244, u245, u246, u247, u248, u249, u250, u251, u252, u253, u254, u255, u256, u257, u258, u259, u260, u261, u262, u263, u264, u265, u266, u267, u268, u269, u270, u271, u272, u273, u274, u275, u276, u277, u278, u279, u280, u281, u282, u283, u284, u285, u286, u287, u288, u289, u290, u291, u292, u293, u294, u295, u296, u297, u298, u299, u300, u301, u302, u303, u304, u305, u306, u307, u308, u309, u310, u311, u312, u313, u314, u315, u316, u317, u318, u319, u320, u321, u322, u323, u324, u325, u326, u327, u328, u329, u330, u331, u332, u333, u334, u335, u336, u337, u338, u339, u340, u341, u342, u343, u344, u345, u346, u347, u348, u349, u350, u351, u352, u353, u354, u355, u356, u357, u358, u359, u360, u361, u362, u363, u364, u365, u366, u367, u368, u369, u370, u371, u372, u373, u374, u375, u376, u377, u378, u379, u380, u381, u382, u383, u384, u385, u386, u387, u388, u389, u390, u391, u392, u393, u394, u395, u396, u397, u398, u399, u400, u401, u402, u403, u404, u405, u406, u407, u408, u409, u410, u411, u412, u413], []⟩ wc := by
 conv => arg 2; whnf
 obtain ⟨kq, HA, HJ160, HB⟩ := hcut
 cases kq with
 | zero => exact absurd HA.out (by simp [laws_FnForestsTold.j4])
 | succ kj160 =>
  have H := HA.out
  clear HA
  simp only [laws_FnForestsTold.j4] at H
  replace H := Option.bind_eq_some_iff.mp H
  obtain ⟨t567, A2540, H⟩ := H
  (try dsimp only at H)
  have A254 := Aside0.mk A2540
  clear A2540
  replace H := Option.bind_eq_some_iff.mp H
  obtain ⟨⟨t570, t571⟩, A2550, H⟩ := H
  (try dsimp only at H)
  have A255 := Aside0.mk A2550
  clear A2550
  replace H := Option.bind_eq_some_iff.mp H
  obtain ⟨⟨t572, t573⟩, A2560, H⟩ := H
  (try dsimp only at H)
  have A256 := Aside0.mk A2560
  clear A2560
  replace H := Option.bind_eq_some_iff.mp H
  obtain ⟨⟨t574, t575⟩, A2570, H⟩ := H
  (try dsimp only at H)
  have A257 := Aside0.mk A2570
  clear A2570
  replace H := Option.bind_eq_some_iff.mp H
  obtain ⟨⟨t578, t579⟩, A2580, H⟩ := H
  (try dsimp only at H)
  have A258 := Aside0.mk A2580
  clear A2580
  have HC259 := Aside0.mk H
  clear H
  go_upto_region 52 with (first | (go_at_call 20; (with_reducible refine (spec_DrawCountForests.calls kj160 _ _ l1 t567 _ ?side1 ?side2 A254.out).mono ?_); (case side1 => repeat (first | exact (Kd.C_below HR1.out HB.out) | (with_reducible refine qG ?_ _) | (with_reducible refine qH ?_ _) | (with_reducible refine qI ?_))); (case side2 => exact HC1.out); rintro e w260 ⟨v568, rfl, ho0, hb⟩; have n0_ := Aside0.mk (Kd.R_lower ho0 (below_size (by repeat (first | (with_reducible first | exact HB.out | apply qD | apply qE | apply qF) | exact HB.out)))); have n1_ := Aside0.mk (below_step (by repeat (first | (with_reducible first | exact HB.out | apply qD | apply qE | apply qF) | exact HB.out)) hb); clear HB; have HO569 := n0_; have HB := n1_; clear n0_ n1_; (try clear hb); (try clear hb2); (try clear hk); (try clear hi); (try clear ho0); obtain ⟨Ao261, co261, eo261⟩ := Kd.R_slice HO569.out; subst eo261) | (go_at_call 21; (with_reducible refine (impl_CountForests.calls kj160 _ _ t567 t570 t571 _ ?side1 ?side2 A255.out).mono ?_); (case side1 => repeat (first | exact (Kd.R_reads' HO569.out).2.2 | (with_reducible refine qG ?_ _) | (with_reducible refine qH ?_ _) | (with_reducible refine qI ?_))); (case side2 => exact (Kd.R_reads' HO569.out).2.1); rintro e w' ⟨rfl, ⟨nd, rfl⟩⟩; (try first | exact ⟨rfl, _, World.drewN_drewN _ _ _⟩ | exact ⟨rfl, _, Eq.trans (World.drewN_drewN _ _ _) (congrArg (World.drewN _) (Nat.add_assoc _ _ _))⟩)) | (go_at_call 22; (with_reducible refine (spec_CountForests.calls kj160 _ _ t567 t572 t573 _ ?side1 ?side2 A256.out).mono ?_); (case side1 => repeat (first | exact (Kd.R_reads' HO569.out).2.2 | (with_reducible refine qG ?_ _) | (with_reducible refine qH ?_ _) | (with_reducible refine qI ?_))); (case side2 => exact (Kd.R_reads' HO569.out).2.1); rintro e w262 ⟨rfl, hb⟩; have n0_ := Aside0.mk (Kd.R_below (by (with_reducible repeat (first | apply qA | apply qB | apply qC)); exact HO569.out) hb); have n1_ := Aside0.mk (below_step (by repeat (first | (with_reducible first | exact HB.out | apply qD | apply qE | apply qF) | exact HB.out)) hb); clear HO569; clear HB; have HO569 := n0_; have HB := n1_; clear n0_ n1_; (try clear hb); (try clear hb2); (try clear hk); (try clear hi)) | (go_at_call 23; (with_reducible refine (impl_FirstForest.calls kj160 _ _ t567 t574 t575 _ ?side1 ?side2 A257.out).mono ?_); (case side1 => repeat (first | exact (Kd.R_reads' HO569.out).2.2 | (with_reducible refine qG ?_ _) | (with_reducible refine qH ?_ _) | (with_reducible refine qI ?_))); (case side2 => exact (Kd.R_reads' HO569.out).2.1); rintro e w263 ⟨v576, rfl, ho0, hb⟩; have n0_ := Aside0.mk (Kd.R_elder' (by (with_reducible repeat (first | apply qA | apply qB | apply qC)); exact HO569.out) (Kd.R_base ho0) hb); have n1_ := Aside0.mk (Kd.R_lower (Kd.R_new' ho0 (Kd.R_lt (by (with_reducible repeat (first | apply qA | apply qB | apply qC)); exact HO569.out))) (below_size (by repeat (first | (with_reducible first | exact HB.out | apply qD | apply qE | apply qF) | exact HB.out)))); have n2_ := Aside0.mk (below_step (by repeat (first | (with_reducible first | exact HB.out | apply qD | apply qE | apply qF) | exact HB.out)) hb); clear HO569; clear HB; have HO569 := n0_; have HO577 := n1_; have HB := n2_; clear n0_ n1_ n2_; (try clear hb); (try clear hb2); (try clear hk); (try clear hi); (try clear ho0)) | (go_at_call 24; (with_reducible refine (spec_FirstForest.calls kj160 _ _ t567 t578 t579 _ ?side1 ?side2 A258.out).mono ?_); (case side1 => repeat (first | exact (Kd.R_reads' HO569.out).2.2 | (with_reducible refine qG ?_ _) | (with_reducible refine qH ?_ _) | (with_reducible refine qI ?_))); (case side2 => exact (Kd.R_reads' HO569.out).2.1); rintro e w264 ⟨v580, rfl, ho0, hb⟩; have n0_ := Aside0.mk (Kd.R_elder' (by (with_reducible repeat (first | apply qA | apply qB | apply qC)); exact HO569.out) (Kd.R_base ho0) hb); have n1_ := Aside0.mk (Kd.R_elder' (by (with_reducible repeat (first | apply qA | apply qB | apply qC)); exact HO577.out) (Kd.R_base ho0) hb); have n2_ := Aside0.mk (Kd.R_lower (Kd.R_new' (Kd.R_new' ho0 (Kd.R_lt (by (with_reducible repeat (first | apply qA | apply qB | apply qC)); exact HO569.out))) (Kd.R_lt (by (with_reducible repeat (first | apply qA | apply qB | apply qC)); exact HO577.out))) (below_size (by repeat (first | (with_reducible first | exact HB.out | apply qD | apply qE | apply qF) | exact HB.out)))); have n3_ := Aside0.mk (below_step (by repeat (first | (with_reducible first | exact HB.out | apply qD | apply qE | apply qF) | exact HB.out)) hb); clear HO569; clear HO577; clear HB; have HO569 := n0_; have HO577 := n1_; have HO581 := n2_; have HB := n3_; clear n0_ n1_ n2_ n3_; (try clear hb); (try clear hb2); (try clear hk); (try clear hi); (try clear ho0)))
  repeat (go_quiet (first | (go_at_call 20; (with_reducible refine (spec_DrawCountForests.calls kj160 _ _ l1 t567 _ ?side1 ?side2 A254.out).mono ?_); (case side1 => repeat (first | exact (Kd.C_below HR1.out HB.out) | (with_reducible refine qG ?_ _) | (with_reducible refine qH ?_ _) | (with_reducible refine qI ?_))); (case side2 => exact HC1.out); rintro e w260 ⟨v568, rfl, ho0, hb⟩; have n0_ := Aside0.mk (Kd.R_lower ho0 (below_size (by repeat (first | (with_reducible first | exact HB.out | apply qD | apply qE | apply qF) | exact HB.out)))); have n1_ := Aside0.mk (below_step (by repeat (first | (with_reducible first | exact HB.out | apply qD | apply qE | apply qF) | exact HB.out)) hb); clear HB; have HO569 := n0_; have HB := n1_; clear n0_ n1_; (try clear hb); (try clear hb2); (try clear hk); (try clear hi); (try clear ho0); obtain ⟨Ao261, co261, eo261⟩ := Kd.R_slice HO569.out; subst eo261) | (go_at_call 21; (with_reducible refine (impl_CountForests.calls kj160 _ _ t567 t570 t571 _ ?side1 ?side2 A255.out).mono ?_); (case side1 => repeat (first | exact (Kd.R_reads' HO569.out).2.2 | (with_reducible refine qG ?_ _) | (with_reducible refine qH ?_ _) | (with_reducible refine qI ?_))); (case side2 => exact (Kd.R_reads' HO569.out).2.1); rintro e w' ⟨rfl, ⟨nd, rfl⟩⟩; (try first | exact ⟨rfl, _, World.drewN_drewN _ _ _⟩ | exact ⟨rfl, _, Eq.trans (World.drewN_drewN _ _ _) (congrArg (World.drewN _) (Nat.add_assoc _ _ _))⟩)) | (go_at_call 22; (with_reducible refine (spec_CountForests.calls kj160 _ _ t567 t572 t573 _ ?side1 ?side2 A256.out).mono ?_); (case side1 => repeat (first | exact (Kd.R_reads' HO569.out).2.2 | (with_reducible refine qG ?_ _) | (with_reducible refine qH ?_ _) | (with_reducible refine qI ?_))); (case side2 => exact (Kd.R_reads' HO569.out).2.1); rintro e w262 ⟨rfl, hb⟩; have n0_ := Aside0.mk (Kd.R_below (by (with_reducible repeat (first | apply qA | apply qB | apply qC)); exact HO569.out) hb); have n1_ := Aside0.mk (below_step (by repeat (first | (with_reducible first | exact HB.out | apply qD | apply qE | apply qF) | exact HB.out)) hb); clear HO569; clear HB; have HO569 := n0_; have HB := n1_; clear n0_ n1_; (try clear hb); (try clear hb2); (try clear hk); (try clear hi)) | (go_at_call 23; (with_reducible refine (impl_FirstForest.calls kj160 _ _ t567 t574 t575 _ ?side1 ?side2 A257.out).mono ?_); (case side1 => repeat (first | exact (Kd.R_reads' HO569.out).2.2 | (with_reducible refine qG ?_ _) | (with_reducible refine qH ?_ _) | (with_reducible refine qI ?_))); (case side2 => exact (Kd.R_reads' HO569.out).2.1); rintro e w263 ⟨v576, rfl, ho0, hb⟩; have n0_ := Aside0.mk (Kd.R_elder' (by (with_reducible repeat (first | apply qA | apply qB | apply qC)); exact HO569.out) (Kd.R_base ho0) hb); have n1_ := Aside0.mk (Kd.R_lower (Kd.R_new' ho0 (Kd.R_lt (by (with_reducible repeat (first | apply qA | apply qB | apply qC)); exact HO569.out))) (below_size (by repeat (first | (with_reducible first | exact HB.out | apply qD | apply qE | apply qF) | exact HB.out)))); have n2_ := Aside0.mk (below_step (by repeat (first | (with_reducible first | exact HB.out | apply qD | apply qE | apply qF) | exact HB.out)) hb); clear HO569; clear HB; have HO569 := n0_; have HO577 := n1_; have HB := n2_; clear n0_ n1_ n2_; (try clear hb); (try clear hb2); (try clear hk); (try clear hi); (try clear ho0)) | (go_at_call 24; (with_reducible refine (spec_FirstForest.calls kj160 _ _ t567 t578 t579 _ ?side1 ?side2 A258.out).mono ?_); (case side1 => repeat (first | exact (Kd.R_reads' HO569.out).2.2 | (with_reducible refine qG ?_ _) | (with_reducible refine qH ?_ _) | (with_reducible refine qI ?_))); (case side2 => exact (Kd.R_reads' HO569.out).2.1); rintro e w264 ⟨v580, rfl, ho0, hb⟩; have n0_ := Aside0.mk (Kd.R_elder' (by (with_reducible repeat (first | apply qA | apply qB | apply qC)); exact HO569.out) (Kd.R_base ho0) hb); have n1_ := Aside0.mk (Kd.R_elder' (by (with_reducible repeat (first | apply qA | apply qB | apply qC)); exact HO577.out) (Kd.R_base ho0) hb); have n2_ := Aside0.mk (Kd.R_lower (Kd.R_new' (Kd.R_new' ho0 (Kd.R_lt (by (with_reducible repeat (first | apply qA | apply qB | apply qC)); exact HO569.out))) (Kd.R_lt (by (with_reducible repeat (first | apply qA | apply qB | apply qC)); exact HO577.out))) (below_size (by repeat (first | (with_reducible first | exact HB.out | apply qD | apply qE | apply qF) | exact HB.out)))); have n3_ := Aside0.mk (below_step (by repeat (first | (with_reducible first | exact HB.out | apply qD | apply qE | apply qF) | exact HB.out)) hb); clear HO569; clear HO577; clear HB; have HO569 := n0_; have HO577 := n1_; have HO581 := n2_; have HB := n3_; clear n0_ n1_ n2_ n3_; (try clear hb); (try clear hb2); (try clear hk); (try clear hi); (try clear ho0))); go_upto_region 52 with (first | (go_at_call 20; (with_reducible refine (spec_DrawCountForests.calls kj160 _ _ l1 t567 _ ?side1 ?side2 A254.out).mono ?_); (case side1 => repeat (first | exact (Kd.C_below HR1.out HB.out) | (with_reducible refine qG ?_ _) | (with_reducible refine qH ?_ _) | (with_reducible refine qI ?_))); (case side2 => exact HC1.out); rintro e w260 ⟨v568, rfl, ho0, hb⟩; have n0_ := Aside0.mk (Kd.R_lower ho0 (below_size (by repeat (first | (with_reducible first | exact HB.out | apply qD | apply qE | apply qF) | exact HB.out)))); have n1_ := Aside0.mk (below_step (by repeat (first | (with_reducible first | exact HB.out | apply qD | apply qE | apply qF) | exact HB.out)) hb); clear HB; have HO569 := n0_; have HB := n1_; clear n0_ n1_; (try clear hb); (try clear hb2); (try clear hk); (try clear hi); (try clear ho0); obtain ⟨Ao261, co261, eo261⟩ := Kd.R_slice HO569.out; subst eo261) | (go_at_call 21; (with_reducible refine (impl_CountForests.calls kj160 _ _ t567 t570 t571 _ ?side1 ?side2 A255.out).mono ?_); (case side1 => repeat (first | exact (Kd.R_reads' HO569.out).2.2 | (with_reducible refine qG ?_ _) | (with_reducible refine qH ?_ _) | (with_reducible refine qI ?_))); (case side2 => exact (Kd.R_reads' HO569.out).2.1); rintro e w' ⟨rfl, ⟨nd, rfl⟩⟩; (try first | exact ⟨rfl, _, World.drewN_drewN _ _ _⟩ | exact ⟨rfl, _, Eq.trans (World.drewN_drewN _ _ _) (congrArg (World.drewN _) (Nat.add_assoc _ _ _))⟩)) | (go_at_call 22; (with_reducible refine (spec_CountForests.calls kj160 _ _ t567 t572 t573 _ ?side1 ?side2 A256.out).mono ?_); (case side1 => repeat (first | exact (Kd.R_reads' HO569.out).2.2 | (with_reducible refine qG ?_ _) | (with_reducible refine qH ?_ _) | (with_reducible refine qI ?_))); (case side2 => exact (Kd.R_reads' HO569.out).2.1); rintro e w262 ⟨rfl, hb⟩; have n0_ := Aside0.mk (Kd.R_below (by (with_reducible repeat (first | apply qA | apply qB | apply qC)); exact HO569.out) hb); have n1_ := Aside0.mk (below_step (by repeat (first | (with_reducible first | exact HB.out | apply qD | apply qE | apply qF) | exact HB.out)) hb); clear HO569; clear HB; have HO569 := n0_; have HB := n1_; clear n0_ n1_; (try clear hb); (try clear hb2); (try clear hk); (try clear hi)) | (go_at_call 23; (with_reducible refine (impl_FirstForest.calls kj160 _ _ t567 t574 t575 _ ?side1 ?side2 A257.out).mono ?_); (case side1 => repeat (first | exact (Kd.R_reads' HO569.out).2.2 | (with_reducible refine qG ?_ _) | (with_reducible refine qH ?_ _) | (with_reducible refine qI ?_))); (case side2 => exact (Kd.R_reads' HO569.out).2.1); rintro e w263 ⟨v576, rfl, ho0, hb⟩; have n0_ := Aside0.mk (Kd.R_elder' (by (with_reducible repeat (first | apply qA | apply qB | apply qC)); exact HO569.out) (Kd.R_base ho0) hb); have n1_ := Aside0.mk (Kd.R_lower (Kd.R_new' ho0 (Kd.R_lt (by (with_reducible repeat (first | apply qA | apply qB | apply qC)); exact HO569.out))) (below_size (by repeat (first | (with_reducible first | exact HB.out | apply qD | apply qE | apply qF) | exact HB.out)))); have n2_ := Aside0.mk (below_step (by repeat (first | (with_reducible first | exact HB.out | apply qD | apply qE | apply qF) | exact HB.out)) hb); clear HO569; clear HB; have HO569 := n0_; have HO577 := n1_; have HB := n2_; clear n0_ n1_ n2_; (try clear hb); (try clear hb2); (try clear hk); (try clear hi); (try clear ho0)) | (go_at_call 24; (with_reducible refine (spec_FirstForest.calls kj160 _ _ t567 t578 t579 _ ?side1 ?side2 A258.out).mono ?_); (case side1 => repeat (first | exact (Kd.R_reads' HO569.out).2.2 | (with_reducible refine qG ?_ _) | (with_reducible refine qH ?_ _) | (with_reducible refine qI ?_))); (case side2 => exact (Kd.R_reads' HO569.out).2.1); rintro e w264 ⟨v580, rfl, ho0, hb⟩; have n0_ := Aside0.mk (Kd.R_elder' (by (with_reducible repeat (first | apply qA | apply qB | apply qC)); exact HO569.out) (Kd.R_base ho0) hb); have n1_ := Aside0.mk (Kd.R_elder' (by (with_reducible repeat (first | apply qA | apply qB | apply qC)); exact HO577.out) (Kd.R_base ho0) hb); have n2_ := Aside0.mk (Kd.R_lower (Kd.R_new' (Kd.R_new' ho0 (Kd.R_lt (by (with_reducible repeat (first | apply qA | apply qB | apply qC)); exact HO569.out))) (Kd.R_lt (by (with_reducible repeat (first | apply qA | apply qB | apply qC)); exact HO577.out))) (below_size (by repeat (first | (with_reducible first | exact HB.out | apply qD | apply qE | apply qF) | exact HB.out)))); have n3_ := Aside0.mk (below_step (by repeat (first | (with_reducible first | exact HB.out | apply qD | apply qE | apply qF) | exact HB.out)) hb); clear HO569; clear HO577; clear HB; have HO569 := n0_; have HO577 := n1_; have HO581 := n2_; have HB := n3_; clear n0_ n1_ n2_ n3_; (try clear hb); (try clear hb2); (try clear hk); (try clear hi); (try clear ho0))))
  (try simp only [Act.put, List.setIfInBounds_toArray, List.set_cons_zero, List.set_cons_succ])
  go_cut [372] from 345 to 371 (fun v372 wc => ∃ (kq : Nat) (x372_258 : Bool), v372 = .bool x372_258 ∧ Aside0 (laws_FnForestsTold.j5 kq t567 t574 t575 x372_258 = some true) ∧ Aside0 (kq ≤ kj160) ∧ Aside0 (Kd.R (Kd.int .i64) 3 wc w.heap.size (fun k_ => some k_ ≠ (v576 : Value).ownBlock) (.slice Ao261 t567.length co261) t567) ∧ Aside0 (Kd.R (Kd.int .i64) 3 wc w.heap.size (fun k_ => some k_ ≠ ((.slice Ao261 t567.length co261) : Value).ownBlock) v576 t574) ∧ Aside0 (Below w.heap.size w wc))
  case first =>
   have H := HC259.out
   clear HC259
   by_cases c265 : (t571 != t573) = true
   ·rw [if_pos c265] at H
    (first | exact absurd H (by simp; done) | exact absurd H laws_FnForestsTold.j0_no | exact absurd H laws_FnForestsTold.j5_no | exact absurd H laws_FnForestsTold.j6_no | exact absurd H laws_FnForestsTold.j2_no)
   ·rw [if_neg c265] at H
    have c265b0 : (t571 != t573) = false := by simpa using c265
    (try (have c265b1 : decide (t571 = t573) = true := by simpa using c265))
    (try (have c265b2 : (t571 == t573) = true := by simpa using c265))
    clear c265
    (first | rw [c265b0] | (simp only [i64_w, i32_w]; rw [c265b0]) | skip)
    by_cases c266 : t570 = t572
    ·rw [if_pos c266] at H
     have c266b0 : (t570 == t572) = true := beq_iff_eq.mpr c266
     have c266b1 : (t570 != t572) = false := bne_eq_false_iff_eq.mpr c266
     clear c266
     by_cases c267 : (t575 != t579) = true
     ·rw [if_pos c267] at H
      (first | exact absurd H (by simp; done) | exact absurd H laws_FnForestsTold.j0_no | exact absurd H laws_FnForestsTold.j5_no | exact absurd H laws_FnForestsTold.j6_no | exact absurd H laws_FnForestsTold.j2_no)
     ·rw [if_neg c267] at H
      have c267b0 : (t575 != t579) = false := by simpa using c267
      (try (have c267b1 : decide (t575 = t579) = true := by simpa using c267))
      (try (have c267b2 : (t575 == t579) = true := by simpa using c267))
      clear c267
      replace H := Option.bind_eq_some_iff.mp H
      obtain ⟨t582, A2680, H⟩ := H
      (try dsimp only at H)
      have A268 := Aside0.mk A2680
      clear A2680
      by_cases c269 : t582 = true
      ·subst c269
       rw [if_pos rfl] at H
       by_cases c270 : t571 = true
       ·subst c270
        rw [if_pos rfl] at H
        have H' := Aside0.mk H
        clear H
        obtain ⟨Ao271, co271, eo271⟩ := Kd.R_slice HO577.out
        subst eo271
        obtain ⟨Ao272, co272, eo272⟩ := Kd.R_slice HO581.out
        subst eo272
        go_wp2_with (first | (go_at_call 17; (with_reducible refine (laws_xSame.calls kj160 _ _ t574 _ _ t578 true _ ?side1 ?side2 ?side3 ?side4 A268.out).mono ?_); (case side1 => repeat (first | exact (Kd.R_reads' HO577.out).2.2 | (with_reducible refine qG ?_ _) | (with_reducible refine qH ?_ _) | (with_reducible refine qI ?_))); (case side2 => exact (Kd.R_reads' HO577.out).2.1); (case side3 => repeat (first | exact (Kd.R_reads' HO581.out).2.2 | (with_reducible refine qG ?_ _) | (with_reducible refine qH ?_ _) | (with_reducible refine qI ?_))); (case side4 => exact (Kd.R_reads' HO581.out).2.1); rintro e w' ⟨rfl, ⟨nd, rfl⟩⟩; (try first | exact ⟨rfl, _, World.drewN_drewN _ _ _⟩ | exact ⟨rfl, _, Eq.trans (World.drewN_drewN _ _ _) (congrArg (World.drewN _) (Nat.add_assoc _ _ _))⟩)))
        repeat (go_quiet (first | (go_at_call 17; (with_reducible refine (laws_xSame.calls kj160 _ _ t574 _ _ t578 true _ ?side1 ?side2 ?side3 ?side4 A268.out).mono ?_); (case side1 => repeat (first | exact (Kd.R_reads' HO577.out).2.2 | (with_reducible refine qG ?_ _) | (with_reducible refine qH ?_ _) | (with_reducible refine qI ?_))); (case side2 => exact (Kd.R_reads' HO577.out).2.1); (case side3 => repeat (first | exact (Kd.R_reads' HO581.out).2.2 | (with_reducible refine qG ?_ _) | (with_reducible refine qH ?_ _) | (with_reducible refine qI ?_))); (case side4 => exact (Kd.R_reads' HO581.out).2.1); rintro e w' ⟨rfl, ⟨nd, rfl⟩⟩; (try first | exact ⟨rfl, _, World.drewN_drewN _ _ _⟩ | exact ⟨rfl, _, Eq.trans (World.drewN_drewN _ _ _) (congrArg (World.drewN _) (Nat.add_assoc _ _ _))⟩))); try go_wp2_with (first | (go_at_call 17; (with_reducible refine (laws_xSame.calls kj160 _ _ t574 _ _ t578 true _ ?side1 ?side2 ?side3 ?side4 A268.out).mono ?_); (case side1 => repeat (first | exact (Kd.R_reads' HO577.out).2.2 | (with_reducible refine qG ?_ _) | (with_reducible refine qH ?_ _) | (with_reducible refine qI ?_))); (case side2 => exact (Kd.R_reads' HO577.out).2.1); (case side3 => repeat (first | exact (Kd.R_reads' HO581.out).2.2 | (with_reducible refine qG ?_ _) | (with_reducible refine qH ?_ _) | (with_reducible refine qI ?_))); (case side4 => exact (Kd.R_reads' HO581.out).2.1); rintro e w' ⟨rfl, ⟨nd, rfl⟩⟩; (try first | exact ⟨rfl, _, World.drewN_drewN _ _ _⟩ | exact ⟨rfl, _, Eq.trans (World.drewN_drewN _ _ _) (congrArg (World.drewN _) (Nat.add_assoc _ _ _))⟩))))
        go_meet
        case rel => exact ⟨_, ((t575 != (decide (t570 > 0)))), (by first | rfl | (simp; done) | (simp [*]; done)), H', ⟨by have := HJ15.out; have := HJ160.out; first | omega | exact Nat.le_refl _⟩, ⟨by (with_reducible repeat (first | apply qA | apply qB | apply qC)); exact Kd.R_mono HO569.out (fun _ hk => hk.1.2)⟩, ⟨by (with_reducible repeat (first | apply qA | apply qB | apply qC)); exact Kd.R_mono HO577.out (fun _ hk => hk.1.2)⟩, ⟨by repeat (first | (with_reducible first | exact HB.out | apply qD | apply qE | apply qF) | exact HB.out)⟩⟩
       ·replace c270 := Bool.eq_false_iff.mpr c270
        subst c270
        rw [if_neg (show ¬ (false = true) by decide)] at H
        have H' := Aside0.mk H
        clear H
        obtain ⟨Ao273, co273, eo273⟩ := Kd.R_slice HO577.out
        subst eo273
        obtain ⟨Ao274, co274, eo274⟩ := Kd.R_slice HO581.out
        subst eo274
        go_wp2_with (first | (go_at_call 17; (with_reducible refine (laws_xSame.calls kj160 _ _ t574 _ _ t578 true _ ?side1 ?side2 ?side3 ?side4 A268.out).mono ?_); (case side1 => repeat (first | exact (Kd.R_reads' HO577.out).2.2 | (with_reducible refine qG ?_ _) | (with_reducible refine qH ?_ _) | (with_reducible refine qI ?_))); (case side2 => exact (Kd.R_reads' HO577.out).2.1); (case side3 => repeat (first | exact (Kd.R_reads' HO581.out).2.2 | (with_reducible refine qG ?_ _) | (with_reducible refine qH ?_ _) | (with_reducible refine qI ?_))); (case side4 => exact (Kd.R_reads' HO581.out).2.1); rintro e w' ⟨rfl, ⟨nd, rfl⟩⟩; (try first | exact ⟨rfl, _, World.drewN_drewN _ _ _⟩ | exact ⟨rfl, _, Eq.trans (World.drewN_drewN _ _ _) (congrArg (World.drewN _) (Nat.add_assoc _ _ _))⟩)))
        repeat (go_quiet (first | (go_at_call 17; (with_reducible refine (laws_xSame.calls kj160 _ _ t574 _ _ t578 true _ ?side1 ?side2 ?side3 ?side4 A268.out).mono ?_); (case side1 => repeat (first | exact (Kd.R_reads' HO577.out).2.2 | (with_reducible refine qG ?_ _) | (with_reducible refine qH ?_ _) | (with_reducible refine qI ?_))); (case side2 => exact (Kd.R_reads' HO577.out).2.1); (case side3 => repeat (first | exact (Kd.R_reads' HO581.out).2.2 | (with_reducible refine qG ?_ _) | (with_reducible refine qH ?_ _) | (with_reducible refine qI ?_))); (case side4 => exact (Kd.R_reads' HO581.out).2.1); rintro e w' ⟨rfl, ⟨nd, rfl⟩⟩; (try first | exact ⟨rfl, _, World.drewN_drewN _ _ _⟩ | exact ⟨rfl, _, Eq.trans (World.drewN_drewN _ _ _) (congrArg (World.drewN _) (Nat.add_assoc _ _ _))⟩))); try go_wp2_with (first | (go_at_call 17; (with_reducible refine (laws_xSame.calls kj160 _ _ t574 _ _ t578 true _ ?side1 ?side2 ?side3 ?side4 A268.out).mono ?_); (case side1 => repeat (first | exact (Kd.R_reads' HO577.out).2.2 | (with_reducible refine qG ?_ _) | (with_reducible refine qH ?_ _) | (with_reducible refine qI ?_))); (case side2 => exact (Kd.R_reads' HO577.out).2.1); (case side3 => repeat (first | exact (Kd.R_reads' HO581.out).2.2 | (with_reducible refine qG ?_ _) | (with_reducible refine qH ?_ _) | (with_reducible refine qI ?_))); (case side4 => exact (Kd.R_reads' HO581.out).2.1); rintro e w' ⟨rfl, ⟨nd, rfl⟩⟩; (try first | exact ⟨rfl, _, World.drewN_drewN _ _ _⟩ | exact ⟨rfl, _, Eq.trans (World.drewN_drewN _ _ _) (congrArg (World.drewN _) (Nat.add_assoc _ _ _))⟩))))
        go_meet
        case rel => exact ⟨_, ((t575 != false)), (by first | rfl | (simp; done) | (simp [*]; done)), H', ⟨by have := HJ15.out; have := HJ160.out; first | omega | exact Nat.le_refl _⟩, ⟨by (with_reducible repeat (first | apply qA | apply qB | apply qC)); exact Kd.R_mono HO569.out (fun _ hk => hk.1.2)⟩, ⟨by (with_reducible repeat (first | apply qA | apply qB | apply qC)); exact Kd.R_mono HO577.out (fun _ hk => hk.1.2)⟩, ⟨by repeat (first | (with_reducible first | exact HB.out | apply qD | apply qE | apply qF) | exact HB.out)⟩⟩
      ·replace c269 := Bool.eq_false_iff.mpr c269
       subst c269
       rw [if_neg (show ¬ (false = true) by decide)] at H
       (first | exact absurd H (by simp; done) | exact absurd H laws_FnForestsTold.j0_no | exact absurd H laws_FnForestsTold.j5_no | exact absurd H laws_FnForestsTold.j6_no | exact absurd H laws_FnForestsTold.j2_no)
    ·rw [if_neg c266] at H
     (first | exact absurd H (by simp; done) | exact absurd H laws_FnForestsTold.j0_no | exact absurd H laws_FnForestsTold.j5_no | exact absurd H laws_FnForestsTold.j6_no | exact absurd H laws_FnForestsTold.j2_no)
  case rest =>
   clear HC259
   try clear c1
   try clear c2
   try clear p2
   try clear q2
   try clear hx2
   try clear hf2
   try clear c3
   try clear c4
   try clear c5
   try clear p5
   try clear q5
   try clear hx5
   try clear c6
   try clear p6
   try clear c7
   try clear c8
   try clear c10
   try clear c11
   try clear c12
   try clear c16
   try clear c17
   try clear c18
   try clear c19
   try clear c20
   try clear p20
   try clear q20
   try clear hx20
   try clear hf20
   try clear c21
   try clear c26
   try clear c27
   try clear c27b0
   try clear c27b1
   try clear c27b2
   try clear c29
   try clear c30
   try clear c30b0
   try clear c30b1
   try clear c30b2
   try clear c34
   try clear c35
   try clear c35b0
   try clear c35b1
   try clear c35b2
   try clear c41
   try clear c42
   try clear c42b0
   try clear c42b1
   try clear c42b2
   try clear c50
   try clear c51
   try clear c51b0
   try clear c51b1
   try clear c51b2
   try clear c53
   try clear p53
   try clear q53
   try clear hx53
   try clear p54
   try clear q54
   try clear hx54
   try clear p55
   try clear q55
   try clear hx55
   try clear c60
   try clear c60b0
   try clear c60b1
   try clear c60b2
   try clear p64
   try clear c69
   try clear c70
   try clear c70b0
   try clear c70b1
   try clear c70b2
   try clear c79
   try clear c79b0
   try clear c79b1
   try clear c79b2
   try clear c88
   try clear c88b0
   try clear c88b1
   try clear c88b2
   try clear c105
   try clear c105b0
   try clear c105b1
   try clear c105b2
   try clear c114
   try clear c114b0
   try clear c114b1
   try clear c114b2
   try clear c123
   try clear c123b0
   try clear c123b1
   try clear c123b2
   try clear c160
   try clear c162
   try clear c165
   try clear c165b0
   try clear c166
   try clear c166b0
   try clear c167
   try clear c167b0
   try clear c170
   try clear c171
   try clear c171b0
   try clear c171b1
   try clear c172
   try clear c173
   try clear c174
   try clear c177
   try clear c178
   try clear c178b0
   try clear c178b1
   try clear c181
   try clear c182
   try clear c182b0
   try clear c182b1
   try clear c183
   try clear c183b0
   try clear c183b1
   try clear c187
   try clear c187b0
   try clear c188
   try clear c188b0
   try clear c189
   try clear c189b0
   try clear c190
   try clear c190b0
   try clear c191
   try clear c191b0
   try clear c192
   try clear c192b0
   try clear c192b1
   try clear c195
   try clear c195b0
   try clear c196
   try clear c196b0
   try clear c197
   try clear c197b0
   try clear c198
   try clear c198b0
   try clear c199
   try clear c199b0
   try clear c199b1
   try clear c200
   try clear c200b0
   try clear p201
   try clear q201
   try clear hx201
   try clear hf201
   try clear c209
   try clear c209b0
   try clear c209b1
   try clear c211
   try clear c212
   try clear c214
   try clear c215
   try clear c218
   try clear c218b0
   try clear c218b1
   try clear c265
   try clear c265b0
   try clear c265b1
   try clear c265b2
   try clear c266
   try clear c266b0
   try clear c266b1
   try clear c267
   try clear c267b0
   try clear c267b1
   try clear c267b2
   try clear c269
   try clear c270
   try clear hx201_0
   try clear hx537_0
   try clear hx549_0
   try clear hx550_0
   try clear hx551_0
   try clear hx552_0
   try clear hx553_0
   try clear p2
   try clear p20
   try clear p201
   try clear p5
   try clear p53
   try clear p537
   try clear p54
   try clear p549
   try clear p55
   try clear p550
   try clear p551
   try clear p552
   try clear p553
   try clear p6
   try clear p64
   try clear q2
   try clear q20
   try clear q201
   try clear q5
   try clear q53
   try clear q537
   try clear q54
   try clear q549
   try clear q55
   try clear q550
   try clear q551
   try clear q552
   try clear q553
   obtain ⟨kq, x372_258, rfl, HA, HJ258, HO_43, HO_48, HB⟩ := hcut
   cases kq with
   | zero => exact absurd HA.out (by simp [laws_FnForestsTold.j5])
   | succ kj258 =>
    have H := HA.out
    clear HA
    simp only [laws_FnForestsTold.j5] at H
    by_cases c277 : x372_258 = true
    ·subst c277
     have H1 : (some false) = some true := by rw [if_pos rfl] at H; exact H
     clear H
     have H := H1
     clear H1
     (first | exact absurd H (by simp; done) | exact absurd H laws_FnForestsTold.j0_no | exact absurd H laws_FnForestsTold.j5_no | exact absurd H laws_FnForestsTold.j6_no | exact absurd H laws_FnForestsTold.j2_no)
    ·replace c277 := Bool.eq_false_iff.mpr c277
     subst c277
     rw [if_neg (show ¬ (false = true) by decide)] at H
     by_cases c278 : t575 = true
     ·subst c278
      rw [if_pos rfl] at H
      replace H := Option.bind_eq_some_iff.mp H
      obtain ⟨⟨t583, t584⟩, A2790, H⟩ := H
      (try dsimp only at H)
      have A279 := Aside0.mk A2790
      clear A2790
      have HC280 := Aside0.mk H
      clear H
      obtain ⟨Ao281, co281, eo281⟩ := Kd.R_slice HO_48.out
      subst eo281
      go_upto_region 56 with (first | (go_at_call 14; (with_reducible refine (impl_IsForest.calls kj258 _ _ t574 t583 t584 _ ?side1 ?side2 A279.out).mono ?_); (case side1 => repeat (first | exact (Kd.R_reads' HO_48.out).2.2 | (with_reducible refine qG ?_ _) | (with_reducible refine qH ?_ _) | (with_reducible refine qI ?_))); (case side2 => exact (Kd.R_reads' HO_48.out).2.1); rintro e w' ⟨rfl, ⟨nd, rfl⟩⟩; (try first | exact ⟨rfl, _, World.drewN_drewN _ _ _⟩ | exact ⟨rfl, _, Eq.trans (World.drewN_drewN _ _ _) (congrArg (World.drewN _) (Nat.add_assoc _ _ _))⟩)))
      repeat (go_quiet (first | (go_at_call 14; (with_reducible refine (impl_IsForest.calls kj258 _ _ t574 t583 t584 _ ?side1 ?side2 A279.out).mono ?_); (case side1 => repeat (first | exact (Kd.R_reads' HO_48.out).2.2 | (with_reducible refine qG ?_ _) | (with_reducible refine qH ?_ _) | (with_reducible refine qI ?_))); (case side2 => exact (Kd.R_reads' HO_48.out).2.1); rintro e w' ⟨rfl, ⟨nd, rfl⟩⟩; (try first | exact ⟨rfl, _, World.drewN_drewN _ _ _⟩ | exact ⟨rfl, _, Eq.trans (World.drewN_drewN _ _ _) (congrArg (World.drewN _) (Nat.add_assoc _ _ _))⟩))); go_upto_region 56 with (first | (go_at_call 14; (with_reducible refine (impl_IsForest.calls kj258 _ _ t574 t583 t584 _ ?side1 ?side2 A279.out).mono ?_); (case side1 => repeat (first | exact (Kd.R_reads' HO_48.out).2.2 | (with_reducible refine qG ?_ _) | (with_reducible refine qH ?_ _) | (with_reducible refine qI ?_))); (case side2 => exact (Kd.R_reads' HO_48.out).2.1); rintro e w' ⟨rfl, ⟨nd, rfl⟩⟩; (try first | exact ⟨rfl, _, World.drewN_drewN _ _ _⟩ | exact ⟨rfl, _, Eq.trans (World.drewN_drewN _ _ _) (congrArg (World.drewN _) (Nat.add_assoc _ _ _))⟩))))
      (try simp only [Act.put, List.setIfInBounds_toArray, List.set_cons_zero, List.set_cons_succ])
      go_cut [391] from 379 to 390 (fun v391 wc => ∃ (kq : Nat) (x391_279 : Bool), v391 = .bool x391_279 ∧ Aside0 (laws_FnForestsTold.j6 kq t567 t574 x391_279 = some true) ∧ Aside0 (kq ≤ kj258) ∧ Aside0 (Kd.R (Kd.int .i64) 3 wc w.heap.size (fun k_ => some k_ ≠ ((.slice Ao281 t574.length co281) : Value).ownBlock) (.slice Ao261 t567.length co261) t567) ∧ Aside0 (Kd.R (Kd.int .i64) 3 wc w.heap.size (fun k_ => some k_ ≠ ((.slice Ao261 t567.length co261) : Value).ownBlock) (.slice Ao281 t574.length co281) t574) ∧ Aside0 (Below w.heap.size w wc))
      case first =>
       have H := HC280.out
       clear HC280
       by_cases c282 : t584 = true
       ·subst c282
        rw [if_pos rfl] at H
        by_cases c283 : t583 = true
        ·subst c283
         rw [if_pos rfl] at H
         replace H := Option.bind_eq_some_iff.mp H
         obtain ⟨t585, A2840, H⟩ := H
         replace H : (laws_FnForestsTold.j6 kj258 t567 t574 ((t574.length : Int) != t585)) = some true := H
         have A284 := Aside0.mk A2840
         clear A2840
         have H' := Aside0.mk H
         clear H
         go_wp2_with (first | (go_at_call 19; (with_reducible refine (laws_xSum.calls kj258 _ _ t567 t585 _ ?side1 ?side2 A284.out).mono ?_); (case side1 => repeat (first | exact (Kd.R_reads' HO_43.out).2.2 | (with_reducible refine qG ?_ _) | (with_reducible refine qH ?_ _) | (with_reducible refine qI ?_))); (case side2 => exact (Kd.R_reads' HO_43.out).2.1); rintro e w' ⟨rfl, ⟨nd, rfl⟩⟩; (try first | exact ⟨rfl, _, World.drewN_drewN _ _ _⟩ | exact ⟨rfl, _, Eq.trans (World.drewN_drewN _ _ _) (congrArg (World.drewN _) (Nat.add_assoc _ _ _))⟩)))
         repeat (go_quiet (first | (go_at_call 19; (with_reducible refine (laws_xSum.calls kj258 _ _ t567 t585 _ ?side1 ?side2 A284.out).mono ?_); (case side1 => repeat (first | exact (Kd.R_reads' HO_43.out).2.2 | (with_reducible refine qG ?_ _) | (with_reducible refine qH ?_ _) | (with_reducible refine qI ?_))); (case side2 => exact (Kd.R_reads' HO_43.out).2.1); rintro e w' ⟨rfl, ⟨nd, rfl⟩⟩; (try first | exact ⟨rfl, _, World.drewN_drewN _ _ _⟩ | exact ⟨rfl, _, Eq.trans (World.drewN_drewN _ _ _) (congrArg (World.drewN _) (Nat.add_assoc _ _ _))⟩))); try go_wp2_with (first | (go_at_call 19; (with_reducible refine (laws_xSum.calls kj258 _ _ t567 t585 _ ?side1 ?side2 A284.out).mono ?_); (case side1 => repeat (first | exact (Kd.R_reads' HO_43.out).2.2 | (with_reducible refine qG ?_ _) | (with_reducible refine qH ?_ _) | (with_reducible refine qI ?_))); (case side2 => exact (Kd.R_reads' HO_43.out).2.1); rintro e w' ⟨rfl, ⟨nd, rfl⟩⟩; (try first | exact ⟨rfl, _, World.drewN_drewN _ _ _⟩ | exact ⟨rfl, _, Eq.trans (World.drewN_drewN _ _ _) (congrArg (World.drewN _) (Nat.add_assoc _ _ _))⟩))))
         go_meet
         case rel => exact ⟨_, (((t574.length : Int) != t585)), (by first | rfl | (simp; done) | (simp [*]; done)), H', ⟨by have := HJ15.out; have := HJ160.out; have := HJ258.out; first | omega | exact Nat.le_refl _⟩, ⟨by (with_reducible repeat (first | apply qA | apply qB | apply qC)); exact HO_43.out⟩, ⟨by (with_reducible repeat (first | apply qA | apply qB | apply qC)); exact HO_48.out⟩, ⟨by repeat (first | (with_reducible first | exact HB.out | apply qD | apply qE | apply qF) | exact HB.out)⟩⟩
        ·replace c283 := Bool.eq_false_iff.mpr c283
         subst c283
         have H1 : (laws_FnForestsTold.j6 kj258 t567 t574 true) = some true := by rw [if_neg (show ¬ (false = true) by decide)] at H; exact H
         clear H
         have H := H1
         clear H1
         (first | exact absurd H (by simp; done) | exact absurd H laws_FnForestsTold.j0_no | exact absurd H laws_FnForestsTold.j5_no | exact absurd H laws_FnForestsTold.j6_no | exact absurd H laws_FnForestsTold.j2_no)
       ·replace c282 := Bool.eq_false_iff.mpr c282
        subst c282
        have H1 : (laws_FnForestsTold.j6 kj258 t567 t574 true) = some true := by rw [if_neg (show ¬ (false = true) by decide)] at H; exact H
        clear H
        have H := H1
        clear H1
        (first | exact absurd H (by simp; done) | exact absurd H laws_FnForestsTold.j0_no | exact absurd H laws_FnForestsTold.j5_no | exact absurd H laws_FnForestsTold.j6_no | exact absurd H laws_FnForestsTold.j2_no)
      case rest =>
       clear HC280
       try clear c1
       try clear c2
       try clear p2
       try clear q2
       try clear hx2
       try clear hf2
       try clear c3
       try clear c4
       try clear c5
       try clear p5
       try clear q5
       try clear hx5
       try clear c6
       try clear p6
       try clear c7
       try clear c8
       try clear c10
       try clear c11
       try clear c12
       try clear c16
       try clear c17
       try clear c18
       try clear c19
       try clear c20
       try clear p20
       try clear q20
       try clear hx20
       try clear hf20
       try clear c21
       try clear c26
       try clear c27
       try clear c27b0
       try clear c27b1
       try clear c27b2
       try clear c28
       try clear c29
       try clear c30
       try clear c30b0
       try clear c30b1
       try clear c30b2
       try clear c34
       try clear c35
       try clear c35b0
       try clear c35b1
       try clear c35b2
       try clear c41
       try clear c42
       try clear c42b0
       try clear c42b1
       try clear c42b2
       try clear c50
       try clear c51
       try clear c51b0
       try clear c51b1
       try clear c51b2
       try clear c53
       try clear p53
       try clear q53
       try clear hx53
       try clear p54
       try clear q54
       try clear hx54
       try clear p55
       try clear q55
       try clear hx55
       try clear c60
       try clear c60b0
       try clear c60b1
       try clear c60b2
       try clear p64
       try clear c69
       try clear c70
       try clear c70b0
       try clear c70b1
       try clear c70b2
       try clear c79
       try clear c79b0
       try clear c79b1
       try clear c79b2
       try clear c88
       try clear c88b0
       try clear c88b1
       try clear c88b2
       try clear c105
       try clear c105b0
       try clear c105b1
       try clear c105b2
       try clear c114
       try clear c114b0
       try clear c114b1
       try clear c114b2
       try clear c123
       try clear c123b0
       try clear c123b1
       try clear c123b2
       try clear c160
       try clear c162
       try clear c165
       try clear c165b0
       try clear c166
       try clear c166b0
       try clear c167
       try clear c167b0
       try clear c170
       try clear c171
       try clear c171b0
       try clear c171b1
       try clear c172
       try clear c173
       try clear c174
       try clear c177
       try clear c178
       try clear c178b0
       try clear c178b1
       try clear c181
       try clear c182
       try clear c182b0
       try clear c182b1
       try clear c183
       try clear c183b0
       try clear c183b1
       try clear c187
       try clear c187b0
       try clear c188
       try clear c188b0
       try clear c189
       try clear c189b0
       try clear c190
       try clear c190b0
       try clear c191
       try clear c191b0
       try clear c192
       try clear c192b0
       try clear c192b1
       try clear c195
       try clear c195b0
       try clear c196
       try clear c196b0
       try clear c197
       try clear c197b0
       try clear c198
       try clear c198b0
       try clear c199
       try clear c199b0
       try clear c199b1
       try clear c200
       try clear c200b0
       try clear p201
       try clear q201
       try clear hx201
       try clear hf201
       try clear c209
       try clear c209b0
       try clear c209b1
       try clear c211
       try clear c212
       try clear c214
       try clear c215
       try clear c218
       try clear c218b0
       try clear c218b1
       try clear c265
       try clear c265b0
       try clear c265b1
       try clear c265b2
       try clear c266
       try clear c266b0
       try clear c266b1
       try clear c267
       try clear c267b0
       try clear c267b1
       try clear c267b2
       try clear c269
       try clear c270
       try clear c277
       try clear c278
       try clear c282
       try clear c283
       try clear hx201_0
       try clear hx537_0
       try clear hx549_0
       try clear hx550_0
       try clear hx551_0
       try clear hx552_0
       try clear hx553_0
       try clear p2
       try clear p20
       try clear p201
       try clear p5
       try clear p53
       try clear p537
       try clear p54
       try clear p549
       try clear p55
       try clear p550
       try clear p551
       try clear p552
       try clear p553
       try clear p6
       try clear p64
       try clear q2
       try clear q20
       try clear q201
       try clear q5
       try clear q53
       try clear q537
       try clear q54
       try clear q549
       try clear q55
       try clear q550
       try clear q551
       try clear q552
       try clear q553
       obtain ⟨kq, x391_279, rfl, HA, HJ279, HO_43, HO_48, HB⟩ := hcut
       cases kq with
       | zero => exact absurd HA.out (by simp [laws_FnForestsTold.j6])
       | succ kj279 =>
        have H := HA.out
        clear HA
        simp only [laws_FnForestsTold.j6] at H
        by_cases c285 : x391_279 = true
        ·subst c285
         have H1 : (some false) = some true := by rw [if_pos rfl] at H; exact H
         clear H
         have H := H1
         clear H1
         (first | exact absurd H (by simp; done) | exact absurd H laws_FnForestsTold.j0_no | exact absurd H laws_FnForestsTold.j5_no | exact absurd H laws_FnForestsTold.j6_no | exact absurd H laws_FnForestsTold.j2_no)
        ·replace c285 := Bool.eq_false_iff.mpr c285
         subst c285
         rw [if_neg (show ¬ (false = true) by decide)] at H
         have H' := Aside0.mk H
         clear H
         go_wp2
         repeat (go_quiet (fail); try go_wp2)
         go_loopg [394] kj279 (fun kq v394 w' => ∃ (x394_5 : Int), v394 = .int .i64 x394_5 ∧ Aside0 (laws_FnForestsTold.l2 kq t574 t567 (t567.length : Int) x394_5 = some true) ∧ Aside0 (kq ≤ kj279) ∧ Aside0 (Kd.R (Kd.int .i64) 3 w' w.heap.size (fun k_ => some k_ ≠ ((.slice Ao261 t567.length co261) : Value).ownBlock) (.slice Ao281 t574.length co281) t574) ∧ Aside0 (Kd.R (Kd.int .i64) 3 w' w.heap.size (fun k_ => some k_ ≠ ((.slice Ao281 t574.length co281) : Value).ownBlock) (.slice Ao261 t567.length co261) t567) ∧ Aside0 (Below w.heap.size w w'))
         case atStart => exact ⟨(0), (by first | rfl | (simp; done) | (simp [*]; done)), H', ⟨Nat.le_refl _⟩, ⟨by (with_reducible repeat (first | apply qA | apply qB | apply qC)); exact HO_48.out⟩, ⟨by (with_reducible repeat (first | apply qA | apply qB | apply qC)); exact HO_43.out⟩, ⟨by repeat (first | (with_reducible first | exact HB.out | apply qD | apply qE | apply qF) | exact HB.out)⟩⟩
         case round =>
          clear H'
          try clear c1
          try clear c2
          try clear p2
          try clear q2
          try clear hx2
          try clear hf2
          try clear c3
          try clear c4
          try clear c5
          try clear p5
          try clear q5
          try clear hx5
          try clear c6
          try clear p6
          try clear c7
          try clear c8
          try clear c10
          try clear c11
          try clear c12
          try clear c16
          try clear c17
          try clear c18
          try clear c19
          try clear c20
          try clear p20
          try clear q20
          try clear hx20
          try clear hf20
          try clear c21
          try clear c26
          try clear c27
          try clear c27b0
          try clear c27b1
          try clear c27b2
          try clear c28
          try clear c29
          try clear c30
          try clear c30b0
          try clear c30b1
          try clear c30b2
          try clear c34
          try clear c35
          try clear c35b0
          try clear c35b1
          try clear c35b2
          try clear c41
          try clear c42
          try clear c42b0
          try clear c42b1
          try clear c42b2
          try clear c50
          try clear c51
          try clear c51b0
          try clear c51b1
          try clear c51b2
          try clear c53
          try clear p53
          try clear q53
          try clear hx53
          try clear p54
          try clear q54
          try clear hx54
          try clear p55
          try clear q55
          try clear hx55
          try clear c60
          try clear c60b0
          try clear c60b1
          try clear c60b2
          try clear p64
          try clear c69
          try clear c70
          try clear c70b0
          try clear c70b1
          try clear c70b2
          try clear c79
          try clear c79b0
          try clear c79b1
          try clear c79b2
          try clear c88
          try clear c88b0
          try clear c88b1
          try clear c88b2
          try clear c105
          try clear c105b0
          try clear c105b1
          try clear c105b2
          try clear c114
          try clear c114b0
          try clear c114b1
          try clear c114b2
          try clear c123
          try clear c123b0
          try clear c123b1
          try clear c123b2
          try clear c160
          try clear c162
          try clear c165
          try clear c165b0
          try clear c166
          try clear c166b0
          try clear c167
          try clear c167b0
          try clear c170
          try clear c171
          try clear c171b0
          try clear c171b1
          try clear c172
          try clear c173
          try clear c174
          try clear c177
          try clear c178
          try clear c178b0
          try clear c178b1
          try clear c181
          try clear c182
          try clear c182b0
          try clear c182b1
          try clear c183
          try clear c183b0
          try clear c183b1
          try clear c187
          try clear c187b0
          try clear c188
          try clear c188b0
          try clear c189
          try clear c189b0
          try clear c190
          try clear c190b0
          try clear c191
          try clear c191b0
          try clear c192
          try clear c192b0
          try clear c192b1
          try clear c195
          try clear c195b0
          try clear c196
          try clear c196b0
          try clear c197
          try clear c197b0
          try clear c198
          try clear c198b0
          try clear c199
          try clear c199b0
          try clear c199b1
          try clear c200
          try clear c200b0
          try clear p201
          try clear q201
          try clear hx201
          try clear hf201
          try clear c209
          try clear c209b0
          try clear c209b1
          try clear c211
          try clear c212
          try clear c214
          try clear c215
          try clear c218
          try clear c218b0
          try clear c218b1
          try clear c265
          try clear c265b0
          try clear c265b1
          try clear c265b2
          try clear c266
          try clear c266b0
          try clear c266b1
          try clear c267
          try clear c267b0
          try clear c267b1
          try clear c267b2
          try clear c269
          try clear c270
          try clear c277
          try clear c278
          try clear c282
          try clear c283
          try clear c285
          try clear hx201_0
          try clear hx537_0
          try clear hx549_0
          try clear hx550_0
          try clear hx551_0
          try clear hx552_0
          try clear hx553_0
          try clear p2
          try clear p20
          try clear p201
          try clear p5
          try clear p53
          try clear p537
          try clear p54
          try clear p549
          try clear p55
          try clear p550
          try clear p551
          try clear p552
          try clear p553
          try clear p6
          try clear p64
          try clear q2
          try clear q20
          try clear q201
          try clear q5
          try clear q53
          try clear q537
          try clear q54
          try clear q549
          try clear q55
          try clear q550
          try clear q551
          try clear q552
          try clear q553
          obtain ⟨x394_5, rfl, HA, HK5, HO_48, HO_392, HB⟩ := hrel
          cases gk with
          | zero => exact absurd HA.out (by simp [laws_FnForestsTold.l2])
          | succ k5 =>
           have H := HA.out
           clear HA
           simp only [laws_FnForestsTold.l2] at H
           by_cases c286 : x394_5 < (t567.length : Int)
           ·rw [if_pos c286] at H
            have c286b0 : decide (x394_5 < (t567.length : Int)) = true := decide_eq_true c286
            clear c286
            by_cases c287 : 0 ≤ x394_5
            ·rw [if_pos c287] at H
             have c287b0 : decide (0 ≤ x394_5) = true := decide_eq_true c287
             clear c287
             by_cases c288 : x394_5 < (t567.length : Int)
             ·rw [if_pos c288] at H
              have c288b0 : decide (x394_5 < (t567.length : Int)) = true := decide_eq_true c288
              clear c288
              have H' := Aside0.mk H
              clear H
              have p586 : 0 ≤ (x394_5 : Int) := of_decide_eq_true (by first | (with_reducible assumption) | assumption)
              have q586 : x394_5 < (t567.length : Int) := of_decide_eq_true (by first | (with_reducible assumption) | assumption)
              obtain ⟨ad586, e586, hx586_0⟩ := Kd.at_int (Kd.R_reads' HO_392.out).2.2 x394_5 p586 q586
              cases e586
              replace p586 := eq_true p586
              replace q586 := eq_true q586
              go_wp2
              repeat (go_quiet (fail); try go_wp2)
              go_loopg [55, 401] k5 (fun kq v55 v401 w' => ∃ (x55_6 : Int) (x401_6 : Int), v55 = .int .i64 x55_6 ∧ v401 = .int .i64 x401_6 ∧ Aside0 (laws_FnForestsTold.l3 kq t574 x394_5 x55_6 t567 (t567.length : Int) x394_5 t574 (t574.length : Int) x401_6 = some true) ∧ Aside0 (kq ≤ k5) ∧ Aside0 (Kd.R (Kd.int .i64) 3 w' w.heap.size (fun k_ => some k_ ≠ ((.slice (some ad586) t567.length co261) : Value).ownBlock) (.slice Ao281 t574.length co281) t574) ∧ Aside0 (Kd.R (Kd.int .i64) 3 w' w.heap.size (fun k_ => some k_ ≠ ((.slice Ao281 t574.length co281) : Value).ownBlock ∧ some k_ ≠ ((.slice Ao281 t574.length co281) : Value).ownBlock) (.slice (some ad586) t567.length co261) t567) ∧ Aside0 (Kd.R (Kd.int .i64) 3 w' w.heap.size (fun k_ => some k_ ≠ ((.slice (some ad586) t567.length co261) : Value).ownBlock) (.slice Ao281 t574.length co281) t574) ∧ Aside0 (Below w.heap.size w w'))
              case atStart => exact ⟨(rd t567 x394_5), (0), (by first | rfl | (simp; done) | (simp [*]; done)), (by first | rfl | (simp; done) | (simp [*]; done)), H', ⟨Nat.le_refl _⟩, ⟨by (with_reducible repeat (first | apply qA | apply qB | apply qC)); exact HO_48.out⟩, ⟨by (with_reducible repeat (first | apply qA | apply qB | apply qC)); exact Kd.R_mono HO_392.out (fun _ hk => ⟨hk, hk⟩)⟩, ⟨by (with_reducible repeat (first | apply qA | apply qB | apply qC)); exact HO_48.out⟩, ⟨by repeat (first | (with_reducible first | exact HB.out | apply qD | apply qE | apply qF) | exact HB.out)⟩⟩
              case round =>
               clear H'
               try clear c1
               try clear c2
               try clear p2
               try clear q2
               try clear hx2
               try clear hf2
               try clear c3
               try clear c4
               try clear c5
               try clear p5
               try clear q5
               try clear hx5
               try clear c6
               try clear p6
               try clear c7
               try clear c8
               try clear c10
               try clear c11
               try clear c12
               try clear c16
               try clear c17
               try clear c18
               try clear c19
               try clear c20
               try clear p20
               try clear q20
               try clear hx20
               try clear hf20
               try clear c21
               try clear c26
               try clear c27
               try clear c27b0
               try clear c27b1
               try clear c27b2
               try clear c28
               try clear c29
               try clear c30
               try clear c30b0
               try clear c30b1
               try clear c30b2
               try clear c34
               try clear c35
               try clear c35b0
               try clear c35b1
               try clear c35b2
               try clear c41
               try clear c42
               try clear c42b0
               try clear c42b1
               try clear c42b2
               try clear c50
               try clear c51
               try clear c51b0
               try clear c51b1
               try clear c51b2
               try clear c53
               try clear p53
               try clear q53
               try clear hx53
               try clear p54
               try clear q54
               try clear hx54
               try clear p55
               try clear q55
               try clear hx55
               try clear p58
               try clear q58
               try clear hx58
               try clear c60
               try clear c60b0
               try clear c60b1
               try clear c60b2
               try clear p64
               try clear c69
               try clear c70
               try clear c70b0
               try clear c70b1
               try clear c70b2
               try clear c79
               try clear c79b0
               try clear c79b1
               try clear c79b2
               try clear c88
               try clear c88b0
               try clear c88b1
               try clear c88b2
               try clear c105
               try clear c105b0
               try clear c105b1
               try clear c105b2
               try clear c114
               try clear c114b0
               try clear c114b1
               try clear c114b2
               try clear c123
               try clear c123b0
               try clear c123b1
               try clear c123b2
               try clear c160
               try clear c162
               try clear c165
               try clear c165b0
               try clear c166
               try clear c166b0
               try clear c167
               try clear c167b0
               try clear c170
               try clear c171
               try clear c171b0
               try clear c171b1
               try clear c172
               try clear c173
               try clear c174
               try clear c177
               try clear c178
               try clear c178b0
               try clear c178b1
               try clear c181
               try clear c182
               try clear c182b0
               try clear c182b1
               try clear c183
               try clear c183b0
               try clear c183b1
               try clear c187
               try clear c187b0
               try clear c188
               try clear c188b0
               try clear c189
               try clear c189b0
               try clear c190
               try clear c190b0
               try clear c191
               try clear c191b0
               try clear c192
               try clear c192b0
               try clear c192b1
               try clear c195
               try clear c195b0
               try clear c196
               try clear c196b0
               try clear c197
               try clear c197b0
               try clear c198
               try clear c198b0
               try clear c199
               try clear c199b0
               try clear c199b1
               try clear c200
               try clear c200b0
               try clear p201
               try clear q201
               try clear hx201
               try clear hf201
               try clear c209
               try clear c209b0
               try clear c209b1
               try clear c211
               try clear c212
               try clear c214
               try clear c215
               try clear c218
               try clear c218b0
               try clear c218b1
               try clear c265
               try clear c265b0
               try clear c265b1
               try clear c265b2
               try clear c266
               try clear c266b0
               try clear c266b1
               try clear c267
               try clear c267b0
               try clear c267b1
               try clear c267b2
               try clear c269
               try clear c270
               try clear c277
               try clear c278
               try clear c282
               try clear c283
               try clear c285
               try clear c286
               try clear c286b0
               try clear c287
               try clear c287b0
               try clear c288
               try clear c288b0
               try clear hx201_0
               try clear hx537_0
               try clear hx549_0
               try clear hx550_0
               try clear hx551_0
               try clear hx552_0
               try clear hx553_0
               try clear hx586_0
               try clear p2
               try clear p20
               try clear p201
               try clear p5
               try clear p53
               try clear p537
               try clear p54
               try clear p549
               try clear p55
               try clear p550
               try clear p551
               try clear p552
               try clear p553
               try clear p586
               try clear p6
               try clear p64
               try clear q2
               try clear q20
               try clear q201
               try clear q5
               try clear q53
               try clear q537
               try clear q54
               try clear q549
               try clear q55
               try clear q550
               try clear q551
               try clear q552
               try clear q553
               try clear q586
               obtain ⟨x55_6, x401_6, rfl, rfl, HA, HK6, HO_48, HO_392, HO_399, HB⟩ := hrel
               cases gk with
               | zero => exact absurd HA.out (by simp [laws_FnForestsTold.l3])
               | succ k6 =>
                have H := HA.out
                clear HA
                simp only [laws_FnForestsTold.l3] at H
                by_cases c289 : x401_6 < (t574.length : Int)
                ·rw [if_pos c289] at H
                 have c289b0 : decide (x401_6 < (t574.length : Int)) = true := decide_eq_true c289
                 clear c289
                 by_cases c290 : 0 ≤ x401_6
                 ·rw [if_pos c290] at H
                  have c290b0 : decide (0 ≤ x401_6) = true := decide_eq_true c290
                  clear c290
                  by_cases c291 : x401_6 < (t574.length : Int)
                  ·rw [if_pos c291] at H
                   have c291b0 : decide (x401_6 < (t574.length : Int)) = true := decide_eq_true c291
                   clear c291
                   by_cases c292 : (rd t574 x401_6) = x394_5
                   ·rw [if_pos c292] at H
                    have c292b0 : ((rd t574 x401_6) == x394_5) = true := beq_iff_eq.mpr c292
                    have c292b1 : ((rd t574 x401_6) != x394_5) = false := bne_eq_false_iff_eq.mpr c292
                    clear c292
                    have H' := Aside0.mk H
                    clear H
                    have p587 : 0 ≤ (x401_6 : Int) := of_decide_eq_true (by first | (with_reducible assumption) | assumption)
                    have q587 : x401_6 < (t574.length : Int) := of_decide_eq_true (by first | (with_reducible assumption) | assumption)
                    obtain ⟨ad587, e587, hx587_0⟩ := Kd.at_int (Kd.R_reads' HO_399.out).2.2 x401_6 p587 q587
                    cases e587
                    replace p587 := eq_true p587
                    replace q587 := eq_true q587
                    go_wp2
                    repeat (go_quiet (fail); try go_wp2)
                    go_roundg k6
                    case measure => have := HJ15.out; have := HJ160.out; have := HJ258.out; have := HJ279.out; have := HK5.out; have := HK6.out; omega
                    case rel => exact ⟨(wrap64 (x55_6 - 1)), (wrap64 (x401_6 + 1)), (by first | rfl | (simp; done) | (simp [*]; done)), (by first | rfl | (simp; done) | (simp [*]; done)), H', ⟨by have := HJ15.out; have := HJ160.out; have := HJ258.out; have := HJ279.out; have := HK5.out; have := HK6.out; omega⟩, ⟨by (with_reducible repeat (first | apply qA | apply qB | apply qC)); exact HO_48.out⟩, ⟨by (with_reducible repeat (first | apply qA | apply qB | apply qC)); exact HO_392.out⟩, ⟨by (with_reducible repeat (first | apply qA | apply qB | apply qC)); exact HO_399.out⟩, ⟨by repeat (first | (with_reducible first | exact HB.out | apply qD | apply qE | apply qF) | exact HB.out)⟩⟩
                   ·rw [if_neg c292] at H
                    have c292b0 : ((rd t574 x401_6) == x394_5) = false := beq_eq_false_iff_ne.mpr c292
                    have c292b1 : ((rd t574 x401_6) != x394_5) = true := bne_iff_ne.mpr c292
                    have H' := Aside0.mk H
                    clear H
                    have p587 : 0 ≤ (x401_6 : Int) := of_decide_eq_true (by first | (with_reducible assumption) | assumption)
                    have q587 : x401_6 < (t574.length : Int) := of_decide_eq_true (by first | (with_reducible assumption) | assumption)
                    obtain ⟨ad587, e587, hx587_0⟩ := Kd.at_int (Kd.R_reads' HO_399.out).2.2 x401_6 p587 q587
                    cases e587
                    replace p587 := eq_true p587
                    replace q587 := eq_true q587
                    go_wp2
                    repeat (go_quiet (fail); try go_wp2)
                    go_roundg k6
                    case measure => have := HJ15.out; have := HJ160.out; have := HJ258.out; have := HJ279.out; have := HK5.out; have := HK6.out; omega
                    case rel => exact ⟨(x55_6), (wrap64 (x401_6 + 1)), (by first | rfl | (simp; done) | (simp [*]; done)), (by first | rfl | (simp; done) | (simp [*]; done)), H', ⟨by have := HJ15.out; have := HJ160.out; have := HJ258.out; have := HJ279.out; have := HK5.out; have := HK6.out; omega⟩, ⟨by (with_reducible repeat (first | apply qA | apply qB | apply qC)); exact HO_48.out⟩, ⟨by (with_reducible repeat (first | apply qA | apply qB | apply qC)); exact HO_392.out⟩, ⟨by (with_reducible repeat (first | apply qA | apply qB | apply qC)); exact HO_399.out⟩, ⟨by repeat (first | (with_reducible first | exact HB.out | apply qD | apply qE | apply qF) | exact HB.out)⟩⟩
                  ·rw [if_neg c291] at H
                   exact absurd H (by simp)
                 ·rw [if_neg c290] at H
                  exact absurd H (by simp)
                ·rw [if_neg c289] at H
                 have c289b0 : decide (x401_6 < (t574.length : Int)) = false := decide_eq_false c289
                 clear c289
                 by_cases c293 : x55_6 = 0
                 ·rw [if_pos c293] at H
                  have c293b0 : (x55_6 == 0) = true := beq_iff_eq.mpr c293
                  have c293b1 : (x55_6 != 0) = false := bne_eq_false_iff_eq.mpr c293
                  clear c293
                  have H' := Aside0.mk H
                  clear H
                  go_wp2
                  repeat (go_quiet (fail); try go_wp2)
                  go_roundg k6
                  case measure => have := HJ15.out; have := HJ160.out; have := HJ258.out; have := HJ279.out; have := HK5.out; have := HK6.out; omega
                  case rel => exact ⟨(wrap64 (x394_5 + 1)), (by first | rfl | (simp; done) | (simp [*]; done)), H', ⟨by have := HJ15.out; have := HJ160.out; have := HJ258.out; have := HJ279.out; have := HK5.out; have := HK6.out; omega⟩, ⟨by (with_reducible repeat (first | apply qA | apply qB | apply qC)); exact HO_48.out⟩, ⟨by (with_reducible repeat (first | apply qA | apply qB | apply qC)); exact Kd.R_mono HO_392.out (fun _ hk => hk.1)⟩, ⟨by repeat (first | (with_reducible first | exact HB.out | apply qD | apply qE | apply qF) | exact HB.out)⟩⟩
                 ·rw [if_neg c293] at H
                  have c293b0 : (x55_6 == 0) = false := beq_eq_false_iff_ne.mpr c293
                  have c293b1 : (x55_6 != 0) = true := bne_iff_ne.mpr c293
                  (first | exact absurd H (by simp; done) | exact absurd H laws_FnForestsTold.j0_no | exact absurd H laws_FnForestsTold.j5_no | exact absurd H laws_FnForestsTold.j6_no | exact absurd H laws_FnForestsTold.j2_no)
             ·rw [if_neg c288] at H
              exact absurd H (by simp)
            ·rw [if_neg c287] at H
             exact absurd H (by simp)
           ·rw [if_neg c286] at H
            have c286b0 : decide (x394_5 < (t567.length : Int)) = false := decide_eq_false c286
            clear c286
            skip
            go_wp2
            repeat (go_quiet (fail); try go_wp2)
            go_ret
            exact ⟨by first | rfl | (simp [errW_none, errW_some] <;> rfl) | (simp [*, errW_none, errW_some] <;> rfl), by repeat (first | (with_reducible first | exact HB.out | apply qD | apply qE | apply qF) | exact HB.out)⟩
     ·replace c278 := Bool.eq_false_iff.mpr c278
      subst c278
      go_wp2
      repeat (go_quiet (fail); try go_wp2)
      go_ret
      exact ⟨by first | rfl | (simp [errW_none, errW_some] <;> rfl) | (simp [*, errW_none, errW_some] <;> rfl), by repeat (first | (with_reducible first | exact HB.out | apply qD | apply qE | apply qF) | exact HB.out)⟩

end Go.Proofs.Ytjjkglfpcdedlaa.QFnForestsTold
