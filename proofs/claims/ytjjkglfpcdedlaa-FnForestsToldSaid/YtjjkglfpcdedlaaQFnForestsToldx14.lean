/- Written by programs of this repo (xprint, lawcut, fo_lawsplit); Lean checks all of it. -/
import Derived.Test.YtjjkglfpcdedlaaQFnForestsToldx13
namespace Go.Proofs.Ytjjkglfpcdedlaa.QFnForestsTold
open Go.RowKit Go.Proofs.YtjjkglfpcdedlaaZ Go.Proofs.YtjjkglfpcdedlaaZg Go.Proofs.YtjjkglfpcdedlaaW.PrintWords Go.Proofs.YtjjkglfpcdedlaaW.PrintLast Go.Proofs.YtjjkglfpcdedlaaW.PrintMore
attribute [local go_sem] max2_int min2_int max_two min_two max_three min_three max_four min_four   -- for this text's walks alone
set_option linter.unusedVariables false
set_option linter.unusedSimpArgs false

set_option maxHeartbeats 8000000 in
set_option maxRecDepth 1000000 in
theorem law_rest0 (k : Nat) (A0 : Option Addr) (c0 : Nat) (l0 : List Int) (A1 : Option Addr) (c1 : Nat) (l1 : List Int) (w wc : World) (HR0 : Aside0 (Kd.C (Kd.int .u8) w A0 l0.length l0)) (HC0 : Aside0 (l0.length ≤ c0)) (HR1 : Aside0 (Kd.C (Kd.int .u8) w A1 l1.length l1)) (HC1 : Aside0 (l1.length ≤ c1)) (t492 : List Int) (t495 : List (List Int)) (t496 : Bool) (t503 t511 t519 : List Int) (Ao18 : Option Addr) (co18 : Nat) (v497 v505 v513 v521 v187 : Value) (hcut : ∃ (kq : Nat) (x187_15 : Bool), v187 = .bool x187_15 ∧ Aside0 (laws_FnForestsTold.j0 kq l1 t492 t495 t496 t503 t511 t519 x187_15 = some true) ∧ Aside0 (kq ≤ k) ∧ Aside0 (Kd.R (Kd.int .i64) 3 wc w.heap.size (fun k_ => some k_ ≠ (v505 : Value).ownBlock ∧ some k_ ≠ (v513 : Value).ownBlock ∧ some k_ ≠ (v521 : Value).ownBlock) (.slice Ao18 t492.length co18) t492) ∧ Aside0 (Kd.S (Kd.slice 3 (Kd.int .i64)) 24 wc w.heap.size (fun k_ => some k_ ≠ ((.slice Ao18 t492.length co18) : Value).ownBlock ∧ some k_ ≠ (v505 : Value).ownBlock ∧ some k_ ≠ (v513 : Value).ownBlock ∧ some k_ ≠ (v521 : Value).ownBlock) v497 t495) ∧ Aside0 (Kd.R (Kd.int .i64) 3 wc w.heap.size (fun k_ => some k_ ≠ ((.slice Ao18 t492.length co18) : Value).ownBlock ∧ some k_ ≠ (v513 : Value).ownBlock ∧ some k_ ≠ (v521 : Value).ownBlock) v505 t503) ∧ Aside0 (Kd.R (Kd.int .i64) 3 wc w.heap.size (fun k_ => some k_ ≠ ((.slice Ao18 t492.length co18) : Value).ownBlock ∧ some k_ ≠ (v505 : Value).ownBlock ∧ some k_ ≠ (v521 : Value).ownBlock) v513 t511) ∧ Aside0 (Kd.R (Kd.int .i64) 3 wc w.heap.size (fun k_ => some k_ ≠ ((.slice Ao18 t492.length co18) : Value).ownBlock ∧ some k_ ≠ (v505 : Value).ownBlock ∧ some k_ ≠ (v513 : Value).ownBlock) v521 t519) ∧ Aside0 (Below w.heap.size w wc)) (u2 u3 u8 u9 u11 u12 u13 u15 u16 u17 u19 u20 u21 u22 u23 u24 u25 u26 u27 u28 u29 u30 u31 u32 u33 u34 u35 u36 u37 u38 u39 u40 u41 u42 u43 u44 u45 u46 u47 u48 u49 u50 u51 u52 u53 u54 u55 u56 u57 u58 u59 u60 u61 u62 u63 u64 u65 u66 u67 u68 u69 u70 u71 u72 u73 u74 u75 u76 u77 u78 u79 u80 u81 u82 u83 u84 u85 u86 u87 u88 u89 u90 u91 u92 u93 u94 u95 u96 u97 u98 u99 u100 u101 u102 u103 u104 u105 u106 u107 u108 u109 u110 u111 u112 u113 u114 u115 u116 u117 u118 u119 u120 u121 u122 u123 u124 u125 u126 u127 u128 u129 u130 u131 u132 u133 u134 u135 u136 u137 u138 u139 u140 u141 u142 u143 u144 u145 u146 u147 u148 u149 u150 u151 u152 u153 u154 u155 u156 u157 u158 u159 u160 u161 u162 u163 u164 u165 u166 u167 u168 u169 u170 u171 u172 u173 u174 u175 u176 u177 u178 u179 u180 u181 u182 u183 u184 u185 u186 u188 u189 u190 u191 u192 u193 u194 u195 u196 u197 u198 u199 u200 u201 u202 u203 u204 u205 u206 u207 u208 u209 u210 u211 u212 u213 u214 u215 u216 u217 u218 u219 u220 u221 u222 u223 u224 u225 u226 u227 u228 u229 u230 u231 u232 u233 u234 u235 u236 u237 u238 u239 u240 u241 u242 u243 u244 u245 u246 u247 u248 u249 u250 u251 u252 u253 u254 u255 u256 u257 u258 u259 u260 u261 u262 u263 u264 u265 u266 u267 u268 u269 u270 u271 u272 u273 u274 u275 u276 u277 u278 u279 u280 u281 u282 u283 u284 u285 u286 u287 u288 u289 u290 u291 u292 u293 u294 u295 u296 u297 u298 u299 u300 u301 u302 u303 u304 u305 u306 u307 u308 u309 u310 u311 u312 u313 u314 u315 u316 u317 u318 u319 u320 u321 u322 u323 u324 u325 u326 u327 u328 u329 u330 u331 u332 u333 u334 u335 u336 u337 u338 u339 u340 u341 u342 u343 u344 u345 u346 u347 u348 u349 u350 u351 u352 u353 u354 u355 u356 u357 u358 u359 u360 u361 u362 u363 u364 u365 u366 u367 u368 u369 u370 u371 u372 u373 u374 u375 u376 u377 u378 u379 u380 u381 u382 u383 u384 u385 u386 u387 u388 u389 u390 u391 u392 u393 u394 u395 u396 u397 u398 u399 u400 u401 u402 u403 u404 u405 u406 u407 u408 u409 u410 u411 u412 u413 : Value) :
  Code.wp Try.prog (sk 14 (Try.f3.body.getD .skip)) (bodyPost Try.prog Try.f3 (fun e w' => e = .returned (.bool true) ∧ Below w.heap.size w w')) ⟨#[.slice A0 l0.length c0, .slice A1 l1.length c1, u2, u3, .bool false, .slice Ao18 t492.length co18, v497, .bool t496, u8, u9, v505, u11, u12, u13, v513, u15, u16, u17, v521, u19, u20, u21, u22, u23, u24, u25, u26, u27, u28, u29, u30, u31, u32, u33, u34, u35, u36, u37, u38, u39, u40, u41, u42, u43, u44, u45, u46, u47, u48, u49, u50, u51, u52, u53, u54, u55, u56, u57, u58, u59, u60, u61, u62, u63, u64, u65, u66, u67, u68, u69, u70, u71, u72, u73, u74, u75, u76, u77, u78, u79, u80, u81, u82, u83, u84, u85, u86, u87, u88, u89, u90, u91, u92, u93, u94, u95, u96, u97, u98, u99, u100, u101, u102, u103, u104, u105, u106, u107, u108, u109, u110, u111, u112, u113, u114, u115, u116, u117, u118, u119, u120, u121, u122, u123, u124, u125, u126, u127, u128, u129, u130, u131, u132, u133, u134, u135, u136, u137, u138, u139, u140, u141, u142, u143, u144, u145, u146, u147, u148, u149, u150, u151, u152, u153, u154, u155, u156, u157, u158, u159, u160, u161, u162, u163, u164, u165, u166, u167, u168, u169, u170, u171, u172, u173, u174, u175, u176, u177, u178, u179, u180, u181, u182, u183, u184, u185, u186, v187, u188, u189, u190, u191, u192, u193, u194, u195, u196, u197, u198, u199, u200, u201, u202, u203, u204, u205, u206, u207, u208, u209, u210, u211, u212, u213, u214, u215, u216, u217, u218, u219, u220, u221, u222, u223, u224, u225, u226, u227, u228, u229, u230, u231, u232, u233, u234, u235, u236, u237, u238, u239, u240, u241, u242, u243, u244, u245, u246, u247, u248, u249, u250, u251, u252, u253, u254, u255, u256, u257, u258, u259, u260, u261, u262, u263, u264, u265, u266, u267, u268, u269, u270, u271, u272, u273, u274, u275, u276, u277, u278, u279, u280, u281, u282, u283, u284, u285, u286, u287, u288, u289, u290, u291, u292, u293, u294, u295, u296, u297, u298, u299, u300, u301, u302, u303, u304, u305, u306, u307, u308, u309, u310, u311, u312, u313, u314, u315, u316, u317, u318, u319, u320, u321, u322, u323, u324, u325, u326, u327, u328, u329, u330, u331, u332, u333, u334, u335, u336, u337, u338, u339, u340, u341, u342, u343, u344, u345, u346, u347, u348, u349, u350, u351, u352, u353, u354, u355, u356, u357, u358, u359, u360, u361, u362, u363, u364, u365, u366, u367, u368, u369, u370, u371, u372, u373, u374, u375, u376, u377, u378, u379, u380, u381, u382, u383, u384, u385, u386, u387, u388, u389, u390, u391, u392, u393, u394, u395, u396, u397, u398, u399, u400, u401, u402, u403, u404, u405, u406, u407, u408, u409, u410, u411, u412, u413], []⟩ wc := by
 conv => arg 2; whnf
 obtain ⟨kq, x187_15, rfl, HA, HJ15, HO_5, HO_6, HO_10, HO_14, HO_18, HB⟩ := hcut
 cases kq with
 | zero => exact absurd HA.out (by simp [laws_FnForestsTold.j0])
 | succ kj15 =>
  have H := HA.out
  clear HA
  simp only [laws_FnForestsTold.j0] at H
  by_cases c160 : x187_15 = true
  ·subst c160
   have H1 : (some false) = some true := by rw [if_pos rfl] at H; exact H
   clear H
   have H := H1
   clear H1
   (first | exact absurd H (by simp; done) | exact absurd H laws_FnForestsTold.j0_no | exact absurd H laws_FnForestsTold.j5_no | exact absurd H laws_FnForestsTold.j6_no | exact absurd H laws_FnForestsTold.j2_no)
  ·replace c160 := Bool.eq_false_iff.mpr c160
   subst c160
   rw [if_neg (show ¬ (false = true) by decide)] at H
   have HC161 := Aside0.mk H
   clear H
   go_upto_if 188 with (fail)
   repeat (go_quiet (fail); go_upto_if 188 with (fail))
   go_cut [26, 27, 28, 30, 31, 32, 33, 34, 35, 36, 37, 38, 39, 40, 41, 42] from 188 to 322 (fun v26 v27 v28 v30 v31 v32 v33 v34 v35 v36 v37 v38 v39 v40 v41 v42 wc => ∃ (kq : Nat), Aside0 (laws_FnForestsTold.j4 kq l1 = some true) ∧ Aside0 (kq ≤ kj15) ∧ Aside0 (Below w.heap.size w wc))
   case first =>
    have H := HC161.out
    clear HC161
    by_cases c162 : t496 = true
    ·subst c162
     rw [if_pos rfl] at H
     replace H := Option.bind_eq_some_iff.mp H
     obtain ⟨⟨t535, t536⟩, A1630, H⟩ := H
     (try dsimp only at H)
     have A163 := Aside0.mk A1630
     clear A1630
     have H' := Aside0.mk H
     clear H
     go_wp2_with (first | (go_at_call 18; (with_reducible refine (impl_ExcessOf.calls kj15 _ _ t492 t535 t536 _ ?side1 ?side2 A163.out).mono ?_); (case side1 => repeat (first | exact (Kd.R_reads' HO_5.out).2.2 | (with_reducible refine qG ?_ _) | (with_reducible refine qH ?_ _) | (with_reducible refine qI ?_))); (case side2 => exact (Kd.R_reads' HO_5.out).2.1); rintro e w' ⟨rfl, ⟨nd, rfl⟩⟩; (try first | exact ⟨rfl, _, World.drewN_drewN _ _ _⟩ | exact ⟨rfl, _, Eq.trans (World.drewN_drewN _ _ _) (congrArg (World.drewN _) (Nat.add_assoc _ _ _))⟩); obtain ⟨Ao164, co164, eo164⟩ := Kd.S_slice HO_6.out; subst eo164))
     repeat (go_quiet (first | (go_at_call 18; (with_reducible refine (impl_ExcessOf.calls kj15 _ _ t492 t535 t536 _ ?side1 ?side2 A163.out).mono ?_); (case side1 => repeat (first | exact (Kd.R_reads' HO_5.out).2.2 | (with_reducible refine qG ?_ _) | (with_reducible refine qH ?_ _) | (with_reducible refine qI ?_))); (case side2 => exact (Kd.R_reads' HO_5.out).2.1); rintro e w' ⟨rfl, ⟨nd, rfl⟩⟩; (try first | exact ⟨rfl, _, World.drewN_drewN _ _ _⟩ | exact ⟨rfl, _, Eq.trans (World.drewN_drewN _ _ _) (congrArg (World.drewN _) (Nat.add_assoc _ _ _))⟩); obtain ⟨Ao164, co164, eo164⟩ := Kd.S_slice HO_6.out; subst eo164)); try go_wp2_with (first | (go_at_call 18; (with_reducible refine (impl_ExcessOf.calls kj15 _ _ t492 t535 t536 _ ?side1 ?side2 A163.out).mono ?_); (case side1 => repeat (first | exact (Kd.R_reads' HO_5.out).2.2 | (with_reducible refine qG ?_ _) | (with_reducible refine qH ?_ _) | (with_reducible refine qI ?_))); (case side2 => exact (Kd.R_reads' HO_5.out).2.1); rintro e w' ⟨rfl, ⟨nd, rfl⟩⟩; (try first | exact ⟨rfl, _, World.drewN_drewN _ _ _⟩ | exact ⟨rfl, _, Eq.trans (World.drewN_drewN _ _ _) (congrArg (World.drewN _) (Nat.add_assoc _ _ _))⟩); obtain ⟨Ao164, co164, eo164⟩ := Kd.S_slice HO_6.out; subst eo164)))
     go_loopg [28, 196] kj15 (fun kq v28 v196 w' => ∃ (x28_2 : List Int) (x196_2 : Int), v196 = .int .i64 x196_2 ∧ Aside0 (laws_FnForestsTold.l0 kq l1 t492 t495 t503 t511 t519 t535 t536 x28_2 t495 (t495.length : Int) x196_2 = some true) ∧ Aside0 (kq ≤ kj15) ∧ Aside0 (Kd.R (Kd.int .i64) 3 w' w.heap.size (fun k_ => some k_ ≠ (v505 : Value).ownBlock ∧ some k_ ≠ (v513 : Value).ownBlock ∧ some k_ ≠ (v521 : Value).ownBlock ∧ some k_ ≠ (v28 : Value).ownBlock) (.slice Ao18 t492.length co18) t492) ∧ Aside0 (Kd.S (Kd.slice 3 (Kd.int .i64)) 24 w' w.heap.size (fun k_ => some k_ ≠ ((.slice Ao18 t492.length co18) : Value).ownBlock ∧ some k_ ≠ (v505 : Value).ownBlock ∧ some k_ ≠ (v513 : Value).ownBlock ∧ some k_ ≠ (v521 : Value).ownBlock ∧ some k_ ≠ (v28 : Value).ownBlock) (.slice Ao164 t495.length co164) t495) ∧ Aside0 (Kd.R (Kd.int .i64) 3 w' w.heap.size (fun k_ => some k_ ≠ ((.slice Ao18 t492.length co18) : Value).ownBlock ∧ some k_ ≠ (v513 : Value).ownBlock ∧ some k_ ≠ (v521 : Value).ownBlock ∧ some k_ ≠ (v28 : Value).ownBlock) v505 t503) ∧ Aside0 (Kd.R (Kd.int .i64) 3 w' w.heap.size (fun k_ => some k_ ≠ ((.slice Ao18 t492.length co18) : Value).ownBlock ∧ some k_ ≠ (v505 : Value).ownBlock ∧ some k_ ≠ (v521 : Value).ownBlock ∧ some k_ ≠ (v28 : Value).ownBlock) v513 t511) ∧ Aside0 (Kd.R (Kd.int .i64) 3 w' w.heap.size (fun k_ => some k_ ≠ ((.slice Ao18 t492.length co18) : Value).ownBlock ∧ some k_ ≠ (v505 : Value).ownBlock ∧ some k_ ≠ (v513 : Value).ownBlock ∧ some k_ ≠ (v28 : Value).ownBlock) v521 t519) ∧ Aside0 (Kd.R (Kd.int .i64) 3 w' w.heap.size (fun k_ => some k_ ≠ ((.slice Ao18 t492.length co18) : Value).ownBlock ∧ some k_ ≠ (v505 : Value).ownBlock ∧ some k_ ≠ (v513 : Value).ownBlock ∧ some k_ ≠ (v521 : Value).ownBlock) v28 x28_2) ∧ Aside0 (Kd.S (Kd.slice 3 (Kd.int .i64)) 24 w' w.heap.size (fun k_ => some k_ ≠ ((.slice Ao18 t492.length co18) : Value).ownBlock ∧ some k_ ≠ (v505 : Value).ownBlock ∧ some k_ ≠ (v513 : Value).ownBlock ∧ some k_ ≠ (v521 : Value).ownBlock ∧ some k_ ≠ (v28 : Value).ownBlock) (.slice Ao164 t495.length co164) t495) ∧ Aside0 (Below w.heap.size w w'))
     case atStart => exact ⟨(([] : List Int)), (0), (by first | rfl | (simp; done) | (simp [*]; done)), H', ⟨Nat.le_refl _⟩, ⟨by (with_reducible repeat (first | apply qA | apply qB | apply qC)); exact Kd.R_mono HO_5.out (fun _ hk => ⟨hk.1, ⟨hk.2.1, ⟨hk.2.2, (by simp [Value.ownBlock])⟩⟩⟩)⟩, ⟨by (with_reducible repeat (first | apply Kd.S_alloc | apply Kd.S_drewN | apply Kd.S_drew)); exact Kd.S_mono HO_6.out (fun _ hk => ⟨hk.1, ⟨hk.2.1, ⟨hk.2.2.1, ⟨hk.2.2.2, (by simp [Value.ownBlock])⟩⟩⟩⟩)⟩, ⟨by (with_reducible repeat (first | apply qA | apply qB | apply qC)); exact Kd.R_mono HO_10.out (fun _ hk => ⟨hk.1, ⟨hk.2.1, ⟨hk.2.2, (by simp [Value.ownBlock])⟩⟩⟩)⟩, ⟨by (with_reducible repeat (first | apply qA | apply qB | apply qC)); exact Kd.R_mono HO_14.out (fun _ hk => ⟨hk.1, ⟨hk.2.1, ⟨hk.2.2, (by simp [Value.ownBlock])⟩⟩⟩)⟩, ⟨by (with_reducible repeat (first | apply qA | apply qB | apply qC)); exact Kd.R_mono HO_18.out (fun _ hk => ⟨hk.1, ⟨hk.2.1, ⟨hk.2.2, (by simp [Value.ownBlock])⟩⟩⟩)⟩, ⟨by first | exact Kd.R_nil _ _ _ _ _ | exact Kd.N_nil _ _ _ _ _ | exact Kd.V_nil _ _ _ _ _ | exact Kd.Q_nil _ _ _ _ _ | exact Kd.S_nil _ _ _ _ _⟩, ⟨by (with_reducible repeat (first | apply Kd.S_alloc | apply Kd.S_drewN | apply Kd.S_drew)); exact Kd.S_mono HO_6.out (fun _ hk => ⟨hk.1, ⟨hk.2.1, ⟨hk.2.2.1, ⟨hk.2.2.2, (by simp [Value.ownBlock])⟩⟩⟩⟩)⟩, ⟨by repeat (first | (with_reducible first | exact HB.out | apply qD | apply qE | apply qF) | exact HB.out)⟩⟩
     case round =>
      clear H'
      try clear c1
      try clear c2
      try clear p2
      try clear c3
      try clear c4
      try clear c5
      try clear c6
      try clear c7
      try clear c8
      try clear c10
      try clear c11
      try clear c12
      try clear c16
      try clear c27
      try clear c27b0
      try clear c27b1
      try clear c27b2
      try clear c29
      try clear c30
      try clear c30b0
      try clear c30b1
      try clear c30b2
      try clear c34
      try clear c35
      try clear c35b0
      try clear c35b1
      try clear c35b2
      try clear c41
      try clear c42
      try clear c42b0
      try clear c42b1
      try clear c42b2
      try clear c50
      try clear c51
      try clear c51b0
      try clear c51b1
      try clear c51b2
      try clear c60
      try clear c60b0
      try clear c60b1
      try clear c60b2
      try clear c69
      try clear c70
      try clear c70b0
      try clear c70b1
      try clear c70b2
      try clear c79
      try clear c79b0
      try clear c79b1
      try clear c79b2
      try clear c88
      try clear c88b0
      try clear c88b1
      try clear c88b2
      try clear c105
      try clear c105b0
      try clear c105b1
      try clear c105b2
      try clear c114
      try clear c114b0
      try clear c114b1
      try clear c114b2
      try clear c123
      try clear c123b0
      try clear c123b1
      try clear c123b2
      try clear c160
      try clear c162
      try clear p2
      obtain ⟨x28_2, x196_2, rfl, HA, HK2, HO_5, HO_6, HO_10, HO_14, HO_18, HO_28, HO_194, HB⟩ := hrel
      cases gk with
      | zero => exact absurd HA.out (by simp [laws_FnForestsTold.l0])
      | succ k2 =>
       have H := HA.out
       clear HA
       simp only [laws_FnForestsTold.l0] at H
       by_cases c165 : x196_2 < (t495.length : Int)
       ·rw [if_pos c165] at H
        have c165b0 : decide (x196_2 < (t495.length : Int)) = true := decide_eq_true c165
        clear c165
        (first | rw [c165b0] | (simp only [i64_w, i32_w]; rw [c165b0]) | skip)
        by_cases c166 : 0 ≤ x196_2
        ·rw [if_pos c166] at H
         have c166b0 : decide (0 ≤ x196_2) = true := decide_eq_true c166
         clear c166
         by_cases c167 : x196_2 < (t495.length : Int)
         ·rw [if_pos c167] at H
          have c167b0 : decide (x196_2 < (t495.length : Int)) = true := decide_eq_true c167
          clear c167
          replace H := Option.bind_eq_some_iff.mp H
          obtain ⟨⟨t538, t539⟩, A1680, H⟩ := H
          (try dsimp only at H)
          have A168 := Aside0.mk A1680
          clear A1680
          replace H := Option.bind_eq_some_iff.mp H
          obtain ⟨⟨t540, t541⟩, A1690, H⟩ := H
          (try dsimp only at H)
          have A169 := Aside0.mk A1690
          clear A1690
          by_cases c170 : t539 = true
          ·subst c170
           rw [if_pos rfl] at H
           by_cases c171 : t538 = 1
           ·rw [if_pos c171] at H
            have c171b0 : (t538 == 1) = true := beq_iff_eq.mpr c171
            have c171b1 : (t538 != 1) = false := bne_eq_false_iff_eq.mpr c171
            clear c171
            by_cases c172 : t541 = true
            ·subst c172
             rw [if_pos rfl] at H
             by_cases c173 : t540 = true
             ·subst c173
              rw [if_pos rfl] at H
              by_cases c174 : x28_2.length + (rd_L2 t495 x196_2).length < 17592186044416
              ·rw [if_pos c174] at H
               have LMc174 := Aside0.mk c174
               clear c174
               obtain ⟨y542, hy542⟩ : ∃ y_ : List Int, y_ = (x28_2 ++ (rd_L2 t495 x196_2)) := ⟨_, rfl⟩
               replace H : (laws_FnForestsTold.l0 k2 l1 t492 t495 t503 t511 t519 t535 t536 y542 t495 (t495.length : Int) (wrap64 (x196_2 + 1))) = some true := by first | (rw [hy542]; with_reducible exact H) | (have H2_ := (Option.bind_some _ _).symm.trans H; rw [hy542]; with_reducible exact H2_) | (have H2_ := (Option.bind_some _ _).symm.trans H; with_reducible exact H2_) | with_reducible exact H | (rw [hy542]; exact H) | exact H
               have Ny542 := Aside0.mk hy542
               clear hy542
               have H' := Aside0.mk H
               clear H
               have p537 : 0 ≤ (x196_2 : Int) := of_decide_eq_true (by first | (with_reducible assumption) | assumption)
               have q537 : x196_2 < (t495.length : Int) := of_decide_eq_true (by first | (with_reducible assumption) | assumption)
               obtain ⟨ad537, A537_0, c537_0, e537, hx537_0, hl537_0, hi537_0⟩ := at_L2 (Kd.S_reads' HO_194.out).2.2 x196_2 p537 q537
               cases e537
               obtain ⟨ce537, hce537, hMe537, hcc537⟩ := Kd.S_get HO_194.out [] x196_2 p537 (by first | exact q537 | exact of_decide_eq_true (by first | (with_reducible assumption) | assumption) | (have e_ := (Kd.S_reads' HO_194.out).1; omega))
               obtain ⟨ve537_0, rfl, ge537_0⟩ := hMe537
               have hv537_0 := hcc537 0 _ rfl
               rw [Nat.add_zero, show ((Kd.slice 3 (Kd.int .i64))).sz = 1 from rfl, Nat.mul_one] at hv537_0
               replace hv537_0 := Option.some.inj (hv537_0.symm.trans hx537_0)
               rw [hv537_0] at ge537_0
               have HL537_0 := Aside0.mk (show Kd.R (Kd.int .i64) 3 _ _ _ _ (rd_L2 t495 x196_2) from ge537_0)
               clear hv537_0 ge537_0
               clear hcc537 hce537
               have HR537_0 := Aside0.mk hi537_0
               have HC537_0 := Aside0.mk hl537_0
               clear hi537_0 hl537_0
               replace p537 := eq_true p537
               replace q537 := eq_true q537
               go_wp2_with (first | (go_at_call 18; (with_reducible refine (impl_ExcessOf.calls k2 _ _ (rd_L2 t495 x196_2) t538 true _ ?side1 ?side2 A168.out).mono ?_); (case side1 => repeat (first | exact (by repeat (first | (with_reducible exact HR537_0.out) | (with_reducible refine qG ?_ _) | (with_reducible refine qH ?_ _) | (with_reducible refine qI ?_) | exact HR537_0.out)) | (with_reducible refine qG ?_ _) | (with_reducible refine qH ?_ _) | (with_reducible refine qI ?_))); (case side2 => exact HC537_0.out); rintro e w' ⟨rfl, ⟨nd, rfl⟩⟩; (try first | exact ⟨rfl, _, World.drewN_drewN _ _ _⟩ | exact ⟨rfl, _, Eq.trans (World.drewN_drewN _ _ _) (congrArg (World.drewN _) (Nat.add_assoc _ _ _))⟩)) | (go_at_call 14; (with_reducible refine (impl_IsForest.calls k2 _ _ (rd_L2 t495 x196_2) true true _ ?side1 ?side2 A169.out).mono ?_); (case side1 => repeat (first | exact (by repeat (first | (with_reducible exact HR537_0.out) | (with_reducible refine qG ?_ _) | (with_reducible refine qH ?_ _) | (with_reducible refine qI ?_) | exact HR537_0.out)) | (with_reducible refine qG ?_ _) | (with_reducible refine qH ?_ _) | (with_reducible refine qI ?_))); (case side2 => exact HC537_0.out); rintro e w' ⟨rfl, ⟨nd, rfl⟩⟩; (try first | exact ⟨rfl, _, World.drewN_drewN _ _ _⟩ | exact ⟨rfl, _, Eq.trans (World.drewN_drewN _ _ _) (congrArg (World.drewN _) (Nat.add_assoc _ _ _))⟩)) | ((with_reducible refine gate_builtin (b := .append) (xs := #[.tmp 224, .tmp 225]) rfl ?_); (try (refine gate_guard (by rfl) ?_; dsimp only)); at_builtin; refine Kd.R_append_rows (Kd.int .i64) (w0 := w) w.heap.size rfl (.tmp 224) (.tmp 225) 24 3 (.int .i64 0) 8 rfl Try.underlying24 info3 rfl (by decide) (by omega) u28 x28_2 (rd_L2 t495 x196_2) _ _ _ (fun k_ => some k_ ≠ (.slice Ao18 t492.length co18 : Value).ownBlock ∧ some k_ ≠ (v505 : Value).ownBlock ∧ some k_ ≠ (v513 : Value).ownBlock ∧ some k_ ≠ (v521 : Value).ownBlock) (fun _ => False) rfl rfl ?aO ?aR (fun _ _ h => h) (fun _ h => h.elim) ?aF ?aB ?aS ?aL ?_; (case aR => repeat (first | exact (by repeat (first | (with_reducible exact HR537_0.out) | (with_reducible refine qG ?_ _) | (with_reducible refine qH ?_ _) | (with_reducible refine qI ?_) | exact HR537_0.out)) | (with_reducible refine qG ?_ _) | (with_reducible refine qH ?_ _) | (with_reducible refine qI ?_))); (case aB => exact (by repeat (first | (with_reducible first | exact HB.out | apply qD | apply qE | apply qF) | exact HB.out))); (case aF => exact (fun k_ hk => ⟨Kd.fresh' (Kd.R_lt (by (with_reducible repeat (first | apply qA | apply qB | apply qC)); exact HO_5.out)) k_ hk, Kd.fresh' (Kd.R_lt (by (with_reducible repeat (first | apply qA | apply qB | apply qC)); exact HO_10.out)) k_ hk, Kd.fresh' (Kd.R_lt (by (with_reducible repeat (first | apply qA | apply qB | apply qC)); exact HO_14.out)) k_ hk, Kd.fresh' (Kd.R_lt (by (with_reducible repeat (first | apply qA | apply qB | apply qC)); exact HO_18.out)) k_ hk⟩)); (case aO => exact (by (with_reducible repeat (first | apply qA | apply qB | apply qC)); exact HO_28.out)); (case aS => exact (below_size (by repeat (first | (with_reducible first | exact HB.out | apply qD | apply qE | apply qF) | exact HB.out)))); (case aL => have := LMc174.out; omega); intro v543 w175 ho hb hg hat; rw [← Ny542.out] at ho; have n0_ := Aside0.mk (Kd.R_after (ok := (fun k_ => some k_ ≠ (v505 : Value).ownBlock ∧ some k_ ≠ (v513 : Value).ownBlock ∧ some k_ ≠ (v521 : Value).ownBlock)) (by (with_reducible repeat (first | apply qA | apply qB | apply qC)); exact Kd.R_mono HO_5.out (fun _ hk => ⟨⟨hk.1, ⟨hk.2.1, hk.2.2.1⟩⟩, hk.2.2.2⟩)) hg hat); have n1_ := Aside0.mk (Kd.S_after (ok := (fun k_ => some k_ ≠ (.slice Ao18 t492.length co18 : Value).ownBlock ∧ some k_ ≠ (v505 : Value).ownBlock ∧ some k_ ≠ (v513 : Value).ownBlock ∧ some k_ ≠ (v521 : Value).ownBlock)) (by (with_reducible repeat (first | apply Kd.S_alloc | apply Kd.S_drewN | apply Kd.S_drew)); exact Kd.S_mono HO_6.out (fun _ hk => ⟨⟨hk.1, ⟨hk.2.1, ⟨hk.2.2.1, hk.2.2.2.1⟩⟩⟩, hk.2.2.2.2⟩)) hg hat); have n2_ := Aside0.mk (Kd.R_after (ok := (fun k_ => some k_ ≠ (.slice Ao18 t492.length co18 : Value).ownBlock ∧ some k_ ≠ (v513 : Value).ownBlock ∧ some k_ ≠ (v521 : Value).ownBlock)) (by (with_reducible repeat (first | apply qA | apply qB | apply qC)); exact Kd.R_mono HO_10.out (fun _ hk => ⟨⟨hk.1, ⟨hk.2.1, hk.2.2.1⟩⟩, hk.2.2.2⟩)) hg hat); have n3_ := Aside0.mk (Kd.R_after (ok := (fun k_ => some k_ ≠ (.slice Ao18 t492.length co18 : Value).ownBlock ∧ some k_ ≠ (v505 : Value).ownBlock ∧ some k_ ≠ (v521 : Value).ownBlock)) (by (with_reducible repeat (first | apply qA | apply qB | apply qC)); exact Kd.R_mono HO_14.out (fun _ hk => ⟨⟨hk.1, ⟨hk.2.1, hk.2.2.1⟩⟩, hk.2.2.2⟩)) hg hat); have n4_ := Aside0.mk (Kd.R_after (ok := (fun k_ => some k_ ≠ (.slice Ao18 t492.length co18 : Value).ownBlock ∧ some k_ ≠ (v505 : Value).ownBlock ∧ some k_ ≠ (v513 : Value).ownBlock)) (by (with_reducible repeat (first | apply qA | apply qB | apply qC)); exact Kd.R_mono HO_18.out (fun _ hk => ⟨⟨hk.1, ⟨hk.2.1, hk.2.2.1⟩⟩, hk.2.2.2⟩)) hg hat); have n5_ := Aside0.mk (Kd.S_after (ok := (fun k_ => some k_ ≠ (.slice Ao18 t492.length co18 : Value).ownBlock ∧ some k_ ≠ (v505 : Value).ownBlock ∧ some k_ ≠ (v513 : Value).ownBlock ∧ some k_ ≠ (v521 : Value).ownBlock)) (by (with_reducible repeat (first | apply Kd.S_alloc | apply Kd.S_drewN | apply Kd.S_drew)); exact Kd.S_mono HO_194.out (fun _ hk => ⟨⟨hk.1, ⟨hk.2.1, ⟨hk.2.2.1, hk.2.2.2.1⟩⟩⟩, hk.2.2.2.2⟩)) hg hat); have n6_ := Aside0.mk (Kd.R_after (ok := (fun k_ => some k_ ≠ (.slice Ao18 t492.length co18 : Value).ownBlock ∧ some k_ ≠ (v505 : Value).ownBlock ∧ some k_ ≠ (v513 : Value).ownBlock ∧ some k_ ≠ (v521 : Value).ownBlock ∧ some k_ ≠ (.slice (some ad537) t495.length co164 : Value).ownBlock)) (by (with_reducible repeat (first | apply qA | apply qB | apply qC)); exact Kd.R_mono HL537_0.out (fun _ hk => ⟨⟨hk.1.1, ⟨hk.1.2.1, ⟨hk.1.2.2.1, ⟨hk.1.2.2.2.1, hk.2⟩⟩⟩⟩, hk.1.2.2.2.2⟩)) hg hat); have n7_ := Aside0.mk (hb); have n8_ := Aside0.mk (ho); clear HO_5; clear HO_6; clear HO_10; clear HO_14; clear HO_18; clear HO_194; clear HL537_0; clear HB; clear HO_28; have HO_5 := n0_; have HO_6 := n1_; have HO_10 := n2_; have HO_14 := n3_; have HO_18 := n4_; have HO_194 := n5_; have HL537_0 := n6_; have HB := n7_; have HO544 := n8_; clear n0_ n1_ n2_ n3_ n4_ n5_ n6_ n7_ n8_; clear ho hb hg hat))
               repeat (go_quiet (first | (go_at_call 18; (with_reducible refine (impl_ExcessOf.calls k2 _ _ (rd_L2 t495 x196_2) t538 true _ ?side1 ?side2 A168.out).mono ?_); (case side1 => repeat (first | exact (by repeat (first | (with_reducible exact HR537_0.out) | (with_reducible refine qG ?_ _) | (with_reducible refine qH ?_ _) | (with_reducible refine qI ?_) | exact HR537_0.out)) | (with_reducible refine qG ?_ _) | (with_reducible refine qH ?_ _) | (with_reducible refine qI ?_))); (case side2 => exact HC537_0.out); rintro e w' ⟨rfl, ⟨nd, rfl⟩⟩; (try first | exact ⟨rfl, _, World.drewN_drewN _ _ _⟩ | exact ⟨rfl, _, Eq.trans (World.drewN_drewN _ _ _) (congrArg (World.drewN _) (Nat.add_assoc _ _ _))⟩)) | (go_at_call 14; (with_reducible refine (impl_IsForest.calls k2 _ _ (rd_L2 t495 x196_2) true true _ ?side1 ?side2 A169.out).mono ?_); (case side1 => repeat (first | exact (by repeat (first | (with_reducible exact HR537_0.out) | (with_reducible refine qG ?_ _) | (with_reducible refine qH ?_ _) | (with_reducible refine qI ?_) | exact HR537_0.out)) | (with_reducible refine qG ?_ _) | (with_reducible refine qH ?_ _) | (with_reducible refine qI ?_))); (case side2 => exact HC537_0.out); rintro e w' ⟨rfl, ⟨nd, rfl⟩⟩; (try first | exact ⟨rfl, _, World.drewN_drewN _ _ _⟩ | exact ⟨rfl, _, Eq.trans (World.drewN_drewN _ _ _) (congrArg (World.drewN _) (Nat.add_assoc _ _ _))⟩)) | ((with_reducible refine gate_builtin (b := .append) (xs := #[.tmp 224, .tmp 225]) rfl ?_); (try (refine gate_guard (by rfl) ?_; dsimp only)); at_builtin; refine Kd.R_append_rows (Kd.int .i64) (w0 := w) w.heap.size rfl (.tmp 224) (.tmp 225) 24 3 (.int .i64 0) 8 rfl Try.underlying24 info3 rfl (by decide) (by omega) u28 x28_2 (rd_L2 t495 x196_2) _ _ _ (fun k_ => some k_ ≠ (.slice Ao18 t492.length co18 : Value).ownBlock ∧ some k_ ≠ (v505 : Value).ownBlock ∧ some k_ ≠ (v513 : Value).ownBlock ∧ some k_ ≠ (v521 : Value).ownBlock) (fun _ => False) rfl rfl ?aO ?aR (fun _ _ h => h) (fun _ h => h.elim) ?aF ?aB ?aS ?aL ?_; (case aR => repeat (first | exact (by repeat (first | (with_reducible exact HR537_0.out) | (with_reducible refine qG ?_ _) | (with_reducible refine qH ?_ _) | (with_reducible refine qI ?_) | exact HR537_0.out)) | (with_reducible refine qG ?_ _) | (with_reducible refine qH ?_ _) | (with_reducible refine qI ?_))); (case aB => exact (by repeat (first | (with_reducible first | exact HB.out | apply qD | apply qE | apply qF) | exact HB.out))); (case aF => exact (fun k_ hk => ⟨Kd.fresh' (Kd.R_lt (by (with_reducible repeat (first | apply qA | apply qB | apply qC)); exact HO_5.out)) k_ hk, Kd.fresh' (Kd.R_lt (by (with_reducible repeat (first | apply qA | apply qB | apply qC)); exact HO_10.out)) k_ hk, Kd.fresh' (Kd.R_lt (by (with_reducible repeat (first | apply qA | apply qB | apply qC)); exact HO_14.out)) k_ hk, Kd.fresh' (Kd.R_lt (by (with_reducible repeat (first | apply qA | apply qB | apply qC)); exact HO_18.out)) k_ hk⟩)); (case aO => exact (by (with_reducible repeat (first | apply qA | apply qB | apply qC)); exact HO_28.out)); (case aS => exact (below_size (by repeat (first | (with_reducible first | exact HB.out | apply qD | apply qE | apply qF) | exact HB.out)))); (case aL => have := LMc174.out; omega); intro v543 w175 ho hb hg hat; rw [← Ny542.out] at ho; have n0_ := Aside0.mk (Kd.R_after (ok := (fun k_ => some k_ ≠ (v505 : Value).ownBlock ∧ some k_ ≠ (v513 : Value).ownBlock ∧ some k_ ≠ (v521 : Value).ownBlock)) (by (with_reducible repeat (first | apply qA | apply qB | apply qC)); exact Kd.R_mono HO_5.out (fun _ hk => ⟨⟨hk.1, ⟨hk.2.1, hk.2.2.1⟩⟩, hk.2.2.2⟩)) hg hat); have n1_ := Aside0.mk (Kd.S_after (ok := (fun k_ => some k_ ≠ (.slice Ao18 t492.length co18 : Value).ownBlock ∧ some k_ ≠ (v505 : Value).ownBlock ∧ some k_ ≠ (v513 : Value).ownBlock ∧ some k_ ≠ (v521 : Value).ownBlock)) (by (with_reducible repeat (first | apply Kd.S_alloc | apply Kd.S_drewN | apply Kd.S_drew)); exact Kd.S_mono HO_6.out (fun _ hk => ⟨⟨hk.1, ⟨hk.2.1, ⟨hk.2.2.1, hk.2.2.2.1⟩⟩⟩, hk.2.2.2.2⟩)) hg hat); have n2_ := Aside0.mk (Kd.R_after (ok := (fun k_ => some k_ ≠ (.slice Ao18 t492.length co18 : Value).ownBlock ∧ some k_ ≠ (v513 : Value).ownBlock ∧ some k_ ≠ (v521 : Value).ownBlock)) (by (with_reducible repeat (first | apply qA | apply qB | apply qC)); exact Kd.R_mono HO_10.out (fun _ hk => ⟨⟨hk.1, ⟨hk.2.1, hk.2.2.1⟩⟩, hk.2.2.2⟩)) hg hat); have n3_ := Aside0.mk (Kd.R_after (ok := (fun k_ => some k_ ≠ (.slice Ao18 t492.length co18 : Value).ownBlock ∧ some k_ ≠ (v505 : Value).ownBlock ∧ some k_ ≠ (v521 : Value).ownBlock)) (by (with_reducible repeat (first | apply qA | apply qB | apply qC)); exact Kd.R_mono HO_14.out (fun _ hk => ⟨⟨hk.1, ⟨hk.2.1, hk.2.2.1⟩⟩, hk.2.2.2⟩)) hg hat); have n4_ := Aside0.mk (Kd.R_after (ok := (fun k_ => some k_ ≠ (.slice Ao18 t492.length co18 : Value).ownBlock ∧ some k_ ≠ (v505 : Value).ownBlock ∧ some k_ ≠ (v513 : Value).ownBlock)) (by (with_reducible repeat (first | apply qA | apply qB | apply qC)); exact Kd.R_mono HO_18.out (fun _ hk => ⟨⟨hk.1, ⟨hk.2.1, hk.2.2.1⟩⟩, hk.2.2.2⟩)) hg hat); have n5_ := Aside0.mk (Kd.S_after (ok := (fun k_ => some k_ ≠ (.slice Ao18 t492.length co18 : Value).ownBlock ∧ some k_ ≠ (v505 : Value).ownBlock ∧ some k_ ≠ (v513 : Value).ownBlock ∧ some k_ ≠ (v521 : Value).ownBlock)) (by (with_reducible repeat (first | apply Kd.S_alloc | apply Kd.S_drewN | apply Kd.S_drew)); exact Kd.S_mono HO_194.out (fun _ hk => ⟨⟨hk.1, ⟨hk.2.1, ⟨hk.2.2.1, hk.2.2.2.1⟩⟩⟩, hk.2.2.2.2⟩)) hg hat); have n6_ := Aside0.mk (Kd.R_after (ok := (fun k_ => some k_ ≠ (.slice Ao18 t492.length co18 : Value).ownBlock ∧ some k_ ≠ (v505 : Value).ownBlock ∧ some k_ ≠ (v513 : Value).ownBlock ∧ some k_ ≠ (v521 : Value).ownBlock ∧ some k_ ≠ (.slice (some ad537) t495.length co164 : Value).ownBlock)) (by (with_reducible repeat (first | apply qA | apply qB | apply qC)); exact Kd.R_mono HL537_0.out (fun _ hk => ⟨⟨hk.1.1, ⟨hk.1.2.1, ⟨hk.1.2.2.1, ⟨hk.1.2.2.2.1, hk.2⟩⟩⟩⟩, hk.1.2.2.2.2⟩)) hg hat); have n7_ := Aside0.mk (hb); have n8_ := Aside0.mk (ho); clear HO_5; clear HO_6; clear HO_10; clear HO_14; clear HO_18; clear HO_194; clear HL537_0; clear HB; clear HO_28; have HO_5 := n0_; have HO_6 := n1_; have HO_10 := n2_; have HO_14 := n3_; have HO_18 := n4_; have HO_194 := n5_; have HL537_0 := n6_; have HB := n7_; have HO544 := n8_; clear n0_ n1_ n2_ n3_ n4_ n5_ n6_ n7_ n8_; clear ho hb hg hat)); try go_wp2_with (first | (go_at_call 18; (with_reducible refine (impl_ExcessOf.calls k2 _ _ (rd_L2 t495 x196_2) t538 true _ ?side1 ?side2 A168.out).mono ?_); (case side1 => repeat (first | exact (by repeat (first | (with_reducible exact HR537_0.out) | (with_reducible refine qG ?_ _) | (with_reducible refine qH ?_ _) | (with_reducible refine qI ?_) | exact HR537_0.out)) | (with_reducible refine qG ?_ _) | (with_reducible refine qH ?_ _) | (with_reducible refine qI ?_))); (case side2 => exact HC537_0.out); rintro e w' ⟨rfl, ⟨nd, rfl⟩⟩; (try first | exact ⟨rfl, _, World.drewN_drewN _ _ _⟩ | exact ⟨rfl, _, Eq.trans (World.drewN_drewN _ _ _) (congrArg (World.drewN _) (Nat.add_assoc _ _ _))⟩)) | (go_at_call 14; (with_reducible refine (impl_IsForest.calls k2 _ _ (rd_L2 t495 x196_2) true true _ ?side1 ?side2 A169.out).mono ?_); (case side1 => repeat (first | exact (by repeat (first | (with_reducible exact HR537_0.out) | (with_reducible refine qG ?_ _) | (with_reducible refine qH ?_ _) | (with_reducible refine qI ?_) | exact HR537_0.out)) | (with_reducible refine qG ?_ _) | (with_reducible refine qH ?_ _) | (with_reducible refine qI ?_))); (case side2 => exact HC537_0.out); rintro e w' ⟨rfl, ⟨nd, rfl⟩⟩; (try first | exact ⟨rfl, _, World.drewN_drewN _ _ _⟩ | exact ⟨rfl, _, Eq.trans (World.drewN_drewN _ _ _) (congrArg (World.drewN _) (Nat.add_assoc _ _ _))⟩)) | ((with_reducible refine gate_builtin (b := .append) (xs := #[.tmp 224, .tmp 225]) rfl ?_); (try (refine gate_guard (by rfl) ?_; dsimp only)); at_builtin; refine Kd.R_append_rows (Kd.int .i64) (w0 := w) w.heap.size rfl (.tmp 224) (.tmp 225) 24 3 (.int .i64 0) 8 rfl Try.underlying24 info3 rfl (by decide) (by omega) u28 x28_2 (rd_L2 t495 x196_2) _ _ _ (fun k_ => some k_ ≠ (.slice Ao18 t492.length co18 : Value).ownBlock ∧ some k_ ≠ (v505 : Value).ownBlock ∧ some k_ ≠ (v513 : Value).ownBlock ∧ some k_ ≠ (v521 : Value).ownBlock) (fun _ => False) rfl rfl ?aO ?aR (fun _ _ h => h) (fun _ h => h.elim) ?aF ?aB ?aS ?aL ?_; (case aR => repeat (first | exact (by repeat (first | (with_reducible exact HR537_0.out) | (with_reducible refine qG ?_ _) | (with_reducible refine qH ?_ _) | (with_reducible refine qI ?_) | exact HR537_0.out)) | (with_reducible refine qG ?_ _) | (with_reducible refine qH ?_ _) | (with_reducible refine qI ?_))); (case aB => exact (by repeat (first | (with_reducible first | exact HB.out | apply qD | apply qE | apply qF) | exact HB.out))); (case aF => exact (fun k_ hk => ⟨Kd.fresh' (Kd.R_lt (by (with_reducible repeat (first | apply qA | apply qB | apply qC)); exact HO_5.out)) k_ hk, Kd.fresh' (Kd.R_lt (by (with_reducible repeat (first | apply qA | apply qB | apply qC)); exact HO_10.out)) k_ hk, Kd.fresh' (Kd.R_lt (by (with_reducible repeat (first | apply qA | apply qB | apply qC)); exact HO_14.out)) k_ hk, Kd.fresh' (Kd.R_lt (by (with_reducible repeat (first | apply qA | apply qB | apply qC)); exact HO_18.out)) k_ hk⟩)); (case aO => exact (by (with_reducible repeat (first | apply qA | apply qB | apply qC)); exact HO_28.out)); (case aS => exact (below_size (by repeat (first | (with_reducible first | exact HB.out | apply qD | apply qE | apply qF) | exact HB.out)))); (case aL => have := LMc174.out; omega); intro v543 w175 ho hb hg hat; rw [← Ny542.out] at ho; have n0_ := Aside0.mk (Kd.R_after (ok := (fun k_ => some k_ ≠ (v505 : Value).ownBlock ∧ some k_ ≠ (v513 : Value).ownBlock ∧ some k_ ≠ (v521 : Value).ownBlock)) (by (with_reducible repeat (first | apply qA | apply qB | apply qC)); exact Kd.R_mono HO_5.out (fun _ hk => ⟨⟨hk.1, ⟨hk.2.1, hk.2.2.1⟩⟩, hk.2.2.2⟩)) hg hat); have n1_ := Aside0.mk (Kd.S_after (ok := (fun k_ => some k_ ≠ (.slice Ao18 t492.length co18 : Value).ownBlock ∧ some k_ ≠ (v505 : Value).ownBlock ∧ some k_ ≠ (v513 : Value).ownBlock ∧ some k_ ≠ (v521 : Value).ownBlock)) (by (with_reducible repeat (first | apply Kd.S_alloc | apply Kd.S_drewN | apply Kd.S_drew)); exact Kd.S_mono HO_6.out (fun _ hk => ⟨⟨hk.1, ⟨hk.2.1, ⟨hk.2.2.1, hk.2.2.2.1⟩⟩⟩, hk.2.2.2.2⟩)) hg hat); have n2_ := Aside0.mk (Kd.R_after (ok := (fun k_ => some k_ ≠ (.slice Ao18 t492.length co18 : Value).ownBlock ∧ some k_ ≠ (v513 : Value).ownBlock ∧ some k_ ≠ (v521 : Value).ownBlock)) (by (with_reducible repeat (first | apply qA | apply qB | apply qC)); exact Kd.R_mono HO_10.out (fun _ hk => ⟨⟨hk.1, ⟨hk.2.1, hk.2.2.1⟩⟩, hk.2.2.2⟩)) hg hat); have n3_ := Aside0.mk (Kd.R_after (ok := (fun k_ => some k_ ≠ (.slice Ao18 t492.length co18 : Value).ownBlock ∧ some k_ ≠ (v505 : Value).ownBlock ∧ some k_ ≠ (v521 : Value).ownBlock)) (by (with_reducible repeat (first | apply qA | apply qB | apply qC)); exact Kd.R_mono HO_14.out (fun _ hk => ⟨⟨hk.1, ⟨hk.2.1, hk.2.2.1⟩⟩, hk.2.2.2⟩)) hg hat); have n4_ := Aside0.mk (Kd.R_after (ok := (fun k_ => some k_ ≠ (.slice Ao18 t492.length co18 : Value).ownBlock ∧ some k_ ≠ (v505 : Value).ownBlock ∧ some k_ ≠ (v513 : Value).ownBlock)) (by (with_reducible repeat (first | apply qA | apply qB | apply qC)); exact Kd.R_mono HO_18.out (fun _ hk => ⟨⟨hk.1, ⟨hk.2.1, hk.2.2.1⟩⟩, hk.2.2.2⟩)) hg hat); have n5_ := Aside0.mk (Kd.S_after (ok := (fun k_ => some k_ ≠ (.slice Ao18 t492.length co18 : Value).ownBlock ∧ some k_ ≠ (v505 : Value).ownBlock ∧ some k_ ≠ (v513 : Value).ownBlock ∧ some k_ ≠ (v521 : Value).ownBlock)) (by (with_reducible repeat (first | apply Kd.S_alloc | apply Kd.S_drewN | apply Kd.S_drew)); exact Kd.S_mono HO_194.out (fun _ hk => ⟨⟨hk.1, ⟨hk.2.1, ⟨hk.2.2.1, hk.2.2.2.1⟩⟩⟩, hk.2.2.2.2⟩)) hg hat); have n6_ := Aside0.mk (Kd.R_after (ok := (fun k_ => some k_ ≠ (.slice Ao18 t492.length co18 : Value).ownBlock ∧ some k_ ≠ (v505 : Value).ownBlock ∧ some k_ ≠ (v513 : Value).ownBlock ∧ some k_ ≠ (v521 : Value).ownBlock ∧ some k_ ≠ (.slice (some ad537) t495.length co164 : Value).ownBlock)) (by (with_reducible repeat (first | apply qA | apply qB | apply qC)); exact Kd.R_mono HL537_0.out (fun _ hk => ⟨⟨hk.1.1, ⟨hk.1.2.1, ⟨hk.1.2.2.1, ⟨hk.1.2.2.2.1, hk.2⟩⟩⟩⟩, hk.1.2.2.2.2⟩)) hg hat); have n7_ := Aside0.mk (hb); have n8_ := Aside0.mk (ho); clear HO_5; clear HO_6; clear HO_10; clear HO_14; clear HO_18; clear HO_194; clear HL537_0; clear HB; clear HO_28; have HO_5 := n0_; have HO_6 := n1_; have HO_10 := n2_; have HO_14 := n3_; have HO_18 := n4_; have HO_194 := n5_; have HL537_0 := n6_; have HB := n7_; have HO544 := n8_; clear n0_ n1_ n2_ n3_ n4_ n5_ n6_ n7_ n8_; clear ho hb hg hat)))
               go_roundg k2
               case measure => have := HJ15.out; have := HK2.out; omega
               case rel => exact ⟨(y542), (wrap64 (x196_2 + 1)), (by first | rfl | (simp; done) | (simp [*]; done)), H', ⟨by have := HJ15.out; have := HK2.out; omega⟩, ⟨by (with_reducible repeat (first | apply qA | apply qB | apply qC)); exact Kd.R_mono HO_5.out (fun _ hk => ⟨hk.1.1, ⟨hk.1.2.1, ⟨hk.1.2.2, hk.2⟩⟩⟩)⟩, ⟨by (with_reducible repeat (first | apply Kd.S_alloc | apply Kd.S_drewN | apply Kd.S_drew)); exact Kd.S_mono HO_6.out (fun _ hk => ⟨hk.1.1, ⟨hk.1.2.1, ⟨hk.1.2.2.1, ⟨hk.1.2.2.2, hk.2⟩⟩⟩⟩)⟩, ⟨by (with_reducible repeat (first | apply qA | apply qB | apply qC)); exact Kd.R_mono HO_10.out (fun _ hk => ⟨hk.1.1, ⟨hk.1.2.1, ⟨hk.1.2.2, hk.2⟩⟩⟩)⟩, ⟨by (with_reducible repeat (first | apply qA | apply qB | apply qC)); exact Kd.R_mono HO_14.out (fun _ hk => ⟨hk.1.1, ⟨hk.1.2.1, ⟨hk.1.2.2, hk.2⟩⟩⟩)⟩, ⟨by (with_reducible repeat (first | apply qA | apply qB | apply qC)); exact Kd.R_mono HO_18.out (fun _ hk => ⟨hk.1.1, ⟨hk.1.2.1, ⟨hk.1.2.2, hk.2⟩⟩⟩)⟩, ⟨by (with_reducible repeat (first | apply qA | apply qB | apply qC)); exact HO544.out⟩, ⟨by (with_reducible repeat (first | apply Kd.S_alloc | apply Kd.S_drewN | apply Kd.S_drew)); exact Kd.S_mono HO_194.out (fun _ hk => ⟨hk.1.1, ⟨hk.1.2.1, ⟨hk.1.2.2.1, ⟨hk.1.2.2.2, hk.2⟩⟩⟩⟩)⟩, ⟨by repeat (first | (with_reducible first | exact HB.out | apply qD | apply qE | apply qF) | exact HB.out)⟩⟩
              ·rw [if_neg c174] at H
               exact absurd H (by simp)
             ·replace c173 := Bool.eq_false_iff.mpr c173
              subst c173
              have H1 : (some false) = some true := by rw [if_neg (show ¬ (false = true) by decide)] at H; exact H
              clear H
              have H := H1
              clear H1
              (first | exact absurd H (by simp; done) | exact absurd H laws_FnForestsTold.j0_no | exact absurd H laws_FnForestsTold.j5_no | exact absurd H laws_FnForestsTold.j6_no | exact absurd H laws_FnForestsTold.j2_no)
            ·replace c172 := Bool.eq_false_iff.mpr c172
             subst c172
             have H1 : (some false) = some true := by rw [if_neg (show ¬ (false = true) by decide)] at H; exact H
             clear H
             have H := H1
             clear H1
             (first | exact absurd H (by simp; done) | exact absurd H laws_FnForestsTold.j0_no | exact absurd H laws_FnForestsTold.j5_no | exact absurd H laws_FnForestsTold.j6_no | exact absurd H laws_FnForestsTold.j2_no)
           ·rw [if_neg c171] at H
            have c171b0 : (t538 == 1) = false := beq_eq_false_iff_ne.mpr c171
            have c171b1 : (t538 != 1) = true := bne_iff_ne.mpr c171
            (first | exact absurd H (by simp; done) | exact absurd H laws_FnForestsTold.j0_no | exact absurd H laws_FnForestsTold.j5_no | exact absurd H laws_FnForestsTold.j6_no | exact absurd H laws_FnForestsTold.j2_no)
          ·replace c170 := Bool.eq_false_iff.mpr c170
           subst c170
           have H1 : (some false) = some true := by rw [if_neg (show ¬ (false = true) by decide)] at H; exact H
           clear H
           have H := H1
           clear H1
           (first | exact absurd H (by simp; done) | exact absurd H laws_FnForestsTold.j0_no | exact absurd H laws_FnForestsTold.j5_no | exact absurd H laws_FnForestsTold.j6_no | exact absurd H laws_FnForestsTold.j2_no)
         ·rw [if_neg c167] at H
          exact absurd H (by simp)
        ·rw [if_neg c166] at H
         exact absurd H (by simp)
       ·rw [if_neg c165] at H
        have c165b0 : decide (x196_2 < (t495.length : Int)) = false := decide_eq_false c165
        clear c165
        (first | rw [c165b0] | (simp only [i64_w, i32_w]; rw [c165b0]) | skip)
        have HC176 := Aside0.mk H
        clear H
        go_upto_region 28 with (fail)
        repeat (go_quiet (fail); go_upto_region 28 with (fail))
        go_cut [241] from 228 to 240 (fun v241 wc => ∃ (kq : Nat) (x241_175 : Bool), v241 = .bool x241_175 ∧ Aside0 (laws_FnForestsTold.j2 kq l1 t492 t503 t511 t519 t535 x241_175 = some true) ∧ Aside0 (kq ≤ k2) ∧ Aside0 (Kd.R (Kd.int .i64) 3 wc w.heap.size (fun k_ => some k_ ≠ (v505 : Value).ownBlock ∧ some k_ ≠ (v513 : Value).ownBlock ∧ some k_ ≠ (v521 : Value).ownBlock) (.slice Ao18 t492.length co18) t492) ∧ Aside0 (Kd.R (Kd.int .i64) 3 wc w.heap.size (fun k_ => some k_ ≠ ((.slice Ao18 t492.length co18) : Value).ownBlock ∧ some k_ ≠ (v513 : Value).ownBlock ∧ some k_ ≠ (v521 : Value).ownBlock) v505 t503) ∧ Aside0 (Kd.R (Kd.int .i64) 3 wc w.heap.size (fun k_ => some k_ ≠ ((.slice Ao18 t492.length co18) : Value).ownBlock ∧ some k_ ≠ (v505 : Value).ownBlock ∧ some k_ ≠ (v521 : Value).ownBlock) v513 t511) ∧ Aside0 (Kd.R (Kd.int .i64) 3 wc w.heap.size (fun k_ => some k_ ≠ ((.slice Ao18 t492.length co18) : Value).ownBlock ∧ some k_ ≠ (v505 : Value).ownBlock ∧ some k_ ≠ (v513 : Value).ownBlock) v521 t519) ∧ Aside0 (Below w.heap.size w wc))
        case first =>
         have H := HC176.out
         clear HC176
         by_cases c177 : t536 = true
         ·subst c177
          rw [if_pos rfl] at H
          by_cases c178 : (t495.length : Int) = t535
          ·rw [if_pos c178] at H
           have c178b0 : ((t495.length : Int) == t535) = true := beq_iff_eq.mpr c178
           have c178b1 : ((t495.length : Int) != t535) = false := bne_eq_false_iff_eq.mpr c178
           clear c178
           (first | rw [c178b0] | (simp only [i64_w, i32_w]; rw [c178b0]) | skip)
           replace H := Option.bind_eq_some_iff.mp H
           obtain ⟨t545, A1790, H⟩ := H
           replace H : (laws_FnForestsTold.j2 k2 l1 t492 t503 t511 t519 t535 (!t545)) = some true := H
           have A179 := Aside0.mk A1790
           clear A1790
           have H' := Aside0.mk H
           clear H
           obtain ⟨Ao180, co180, eo180⟩ := Kd.R_slice HO_28.out
           subst eo180
           go_wp2_with (first | (go_at_call 17; (with_reducible refine (laws_xSame.calls k2 _ _ x28_2 _ _ t492 t545 _ ?side1 ?side2 ?side3 ?side4 A179.out).mono ?_); (case side1 => repeat (first | exact (Kd.R_reads' HO_28.out).2.2 | (with_reducible refine qG ?_ _) | (with_reducible refine qH ?_ _) | (with_reducible refine qI ?_))); (case side2 => exact (Kd.R_reads' HO_28.out).2.1); (case side3 => repeat (first | exact (Kd.R_reads' HO_5.out).2.2 | (with_reducible refine qG ?_ _) | (with_reducible refine qH ?_ _) | (with_reducible refine qI ?_))); (case side4 => exact (Kd.R_reads' HO_5.out).2.1); rintro e w' ⟨rfl, ⟨nd, rfl⟩⟩; (try first | exact ⟨rfl, _, World.drewN_drewN _ _ _⟩ | exact ⟨rfl, _, Eq.trans (World.drewN_drewN _ _ _) (congrArg (World.drewN _) (Nat.add_assoc _ _ _))⟩)))
           repeat (go_quiet (first | (go_at_call 17; (with_reducible refine (laws_xSame.calls k2 _ _ x28_2 _ _ t492 t545 _ ?side1 ?side2 ?side3 ?side4 A179.out).mono ?_); (case side1 => repeat (first | exact (Kd.R_reads' HO_28.out).2.2 | (with_reducible refine qG ?_ _) | (with_reducible refine qH ?_ _) | (with_reducible refine qI ?_))); (case side2 => exact (Kd.R_reads' HO_28.out).2.1); (case side3 => repeat (first | exact (Kd.R_reads' HO_5.out).2.2 | (with_reducible refine qG ?_ _) | (with_reducible refine qH ?_ _) | (with_reducible refine qI ?_))); (case side4 => exact (Kd.R_reads' HO_5.out).2.1); rintro e w' ⟨rfl, ⟨nd, rfl⟩⟩; (try first | exact ⟨rfl, _, World.drewN_drewN _ _ _⟩ | exact ⟨rfl, _, Eq.trans (World.drewN_drewN _ _ _) (congrArg (World.drewN _) (Nat.add_assoc _ _ _))⟩))); try go_wp2_with (first | (go_at_call 17; (with_reducible refine (laws_xSame.calls k2 _ _ x28_2 _ _ t492 t545 _ ?side1 ?side2 ?side3 ?side4 A179.out).mono ?_); (case side1 => repeat (first | exact (Kd.R_reads' HO_28.out).2.2 | (with_reducible refine qG ?_ _) | (with_reducible refine qH ?_ _) | (with_reducible refine qI ?_))); (case side2 => exact (Kd.R_reads' HO_28.out).2.1); (case side3 => repeat (first | exact (Kd.R_reads' HO_5.out).2.2 | (with_reducible refine qG ?_ _) | (with_reducible refine qH ?_ _) | (with_reducible refine qI ?_))); (case side4 => exact (Kd.R_reads' HO_5.out).2.1); rintro e w' ⟨rfl, ⟨nd, rfl⟩⟩; (try first | exact ⟨rfl, _, World.drewN_drewN _ _ _⟩ | exact ⟨rfl, _, Eq.trans (World.drewN_drewN _ _ _) (congrArg (World.drewN _) (Nat.add_assoc _ _ _))⟩))))
           go_meet
           case rel => exact ⟨_, (!t545), (by first | rfl | (simp; done) | (simp [*]; done)), H', ⟨by have := HJ15.out; have := HK2.out; first | omega | exact Nat.le_refl _⟩, ⟨by (with_reducible repeat (first | apply qA | apply qB | apply qC)); exact Kd.R_mono HO_5.out (fun _ hk => ⟨hk.1, ⟨hk.2.1, hk.2.2.1⟩⟩)⟩, ⟨by (with_reducible repeat (first | apply qA | apply qB | apply qC)); exact Kd.R_mono HO_10.out (fun _ hk => ⟨hk.1, ⟨hk.2.1, hk.2.2.1⟩⟩)⟩, ⟨by (with_reducible repeat (first | apply qA | apply qB | apply qC)); exact Kd.R_mono HO_14.out (fun _ hk => ⟨hk.1, ⟨hk.2.1, hk.2.2.1⟩⟩)⟩, ⟨by (with_reducible repeat (first | apply qA | apply qB | apply qC)); exact Kd.R_mono HO_18.out (fun _ hk => ⟨hk.1, ⟨hk.2.1, hk.2.2.1⟩⟩)⟩, ⟨by repeat (first | (with_reducible first | exact HB.out | apply qD | apply qE | apply qF) | exact HB.out)⟩⟩
          ·rw [if_neg c178] at H
           (first | exact absurd H (by simp; done) | exact absurd H laws_FnForestsTold.j0_no | exact absurd H laws_FnForestsTold.j5_no | exact absurd H laws_FnForestsTold.j6_no | exact absurd H laws_FnForestsTold.j2_no)
         ·replace c177 := Bool.eq_false_iff.mpr c177
          subst c177
          rw [if_neg (show ¬ (false = true) by decide)] at H
          (first | exact absurd H (by simp; done) | exact absurd H laws_FnForestsTold.j0_no | exact absurd H laws_FnForestsTold.j5_no | exact absurd H laws_FnForestsTold.j6_no | exact absurd H laws_FnForestsTold.j2_no)
        case rest =>
         clear HC176
         try clear c1
         try clear c2
         try clear p2
         try clear c3
         try clear c4
         try clear c5
         try clear p5
         try clear q5
         try clear hx5
         try clear c6
         try clear p6
         try clear c7
         try clear c8
         try clear c10
         try clear c11
         try clear c12
         try clear c16
         try clear c17
         try clear c27
         try clear c27b0
         try clear c27b1
         try clear c27b2
         try clear c29
         try clear c30
         try clear c30b0
         try clear c30b1
         try clear c30b2
         try clear c34
         try clear c35
         try clear c35b0
         try clear c35b1
         try clear c35b2
         try clear c41
         try clear c42
         try clear c42b0
         try clear c42b1
         try clear c42b2
         try clear c50
         try clear c51
         try clear c51b0
         try clear c51b1
         try clear c51b2
         try clear c53
         try clear p53
         try clear q53
         try clear hx53
         try clear c60
         try clear c60b0
         try clear c60b1
         try clear c60b2
         try clear p64
         try clear c69
         try clear c70
         try clear c70b0
         try clear c70b1
         try clear c70b2
         try clear c79
         try clear c79b0
         try clear c79b1
         try clear c79b2
         try clear c88
         try clear c88b0
         try clear c88b1
         try clear c88b2
         try clear c105
         try clear c105b0
         try clear c105b1
         try clear c105b2
         try clear c114
         try clear c114b0
         try clear c114b1
         try clear c114b2
         try clear c123
         try clear c123b0
         try clear c123b1
         try clear c123b2
         try clear c160
         try clear c162
         try clear c165
         try clear c165b0
         try clear c166
         try clear c166b0
         try clear c167
         try clear c167b0
         try clear c170
         try clear c171
         try clear c171b0
         try clear c171b1
         try clear c172
         try clear c173
         try clear c174
         try clear c177
         try clear c178
         try clear c178b0
         try clear c178b1
         try clear hx537_0
         try clear p2
         try clear p537
         try clear q537
         obtain ⟨kq, x241_175, rfl, HA, HJ175, HO_5, HO_10, HO_14, HO_18, HB⟩ := hcut
         cases kq with
         | zero => exact absurd HA.out (by simp [laws_FnForestsTold.j2])
         | succ kj175 =>
          have H := HA.out
          clear HA
          simp only [laws_FnForestsTold.j2] at H
          by_cases c181 : x241_175 = true
          ·subst c181
           have H1 : (some false) = some true := by rw [if_pos rfl] at H; exact H
           clear H
           have H := H1
           clear H1
           (first | exact absurd H (by simp; done) | exact absurd H laws_FnForestsTold.j0_no | exact absurd H laws_FnForestsTold.j5_no | exact absurd H laws_FnForestsTold.j6_no | exact absurd H laws_FnForestsTold.j2_no)
          ·replace c181 := Bool.eq_false_iff.mpr c181
           subst c181
           rw [if_neg (show ¬ (false = true) by decide)] at H
           by_cases c182 : 0 ≤ (t492.length : Int)
           ·rw [if_pos c182] at H
            have c182b0 := eq_true c182
            have c182b1 : decide (0 ≤ (t492.length : Int)) = true := decide_eq_true c182
            clear c182
            by_cases c183 : ((t492.length : Int) : Int).toNat ≤ 35184372088832
            ·rw [if_pos c183] at H
             have c183b0 := eq_true c183
             have c183b1 : decide (((t492.length : Int) : Int).toNat ≤ 35184372088832) = true := decide_eq_true c183
             clear c183
             obtain ⟨y546, hy546⟩ : ∃ y_ : List Int, y_ = (List.replicate ((t492.length : Int) : Int).toNat 0) := ⟨_, rfl⟩
             replace H : (laws_FnForestsTold.l1 kj175 l1 t492 t511 t519 t535 y546 0 t503 (t503.length : Int) 0) = some true := by first | (rw [hy546]; with_reducible exact H) | (have H2_ := (Option.bind_some _ _).symm.trans H; rw [hy546]; with_reducible exact H2_) | (have H2_ := (Option.bind_some _ _).symm.trans H; with_reducible exact H2_) | with_reducible exact H | (rw [hy546]; exact H) | exact H
             have Ny546 := Aside0.mk hy546
             clear hy546
             have H' := Aside0.mk H
             clear H
             go_wp2_with (first | ((with_reducible refine gate_dst (N := 244) rfl ?_); (try (refine gate_guard (by rfl) ?_; dsimp only)); refine Kd.R_make (Kd.int .i64) _ 3 rfl (N := 244) rfl 24 _ _ rfl (t492.length : Int) rfl rfl Try.underlying24 (.int .i64 0) 8 info3 rfl (by decide) (by omega) 0 (ok := fun _ => True) (okp := fun _ => True) rfl (fun _ hk => hk) trivial (of_decide_eq_true (by first | (with_reducible assumption) | assumption)) (Nat.le_trans (Nat.mul_le_mul_right _ (of_decide_eq_true (by first | (with_reducible assumption) | assumption) : (t492.length : Int).toNat ≤ 35184372088832)) (by omega)) (Below.refl _ _) (Nat.le_refl _) ?_; intro v547 w184 ho185 hb hg_ hnew_; clear hg_ hnew_; (first | rw [← Ny546.out] at ho185 | (simp only [Int.reduceToNat] at ho185; rw [← Ny546.out] at ho185)); have n0_ := Aside0.mk (Kd.R_elder' (by (with_reducible repeat (first | apply qA | apply qB | apply qC)); exact HO_5.out) (Kd.R_base ho185) hb); have n1_ := Aside0.mk (Kd.R_elder' (by (with_reducible repeat (first | apply qA | apply qB | apply qC)); exact HO_10.out) (Kd.R_base ho185) hb); have n2_ := Aside0.mk (Kd.R_elder' (by (with_reducible repeat (first | apply qA | apply qB | apply qC)); exact HO_14.out) (Kd.R_base ho185) hb); have n3_ := Aside0.mk (Kd.R_elder' (by (with_reducible repeat (first | apply qA | apply qB | apply qC)); exact HO_18.out) (Kd.R_base ho185) hb); have n4_ := Aside0.mk (Kd.R_lower (Kd.R_new' (Kd.R_new' (Kd.R_new' (Kd.R_new' ho185 (Kd.R_lt (by (with_reducible repeat (first | apply qA | apply qB | apply qC)); exact HO_5.out))) (Kd.R_lt (by (with_reducible repeat (first | apply qA | apply qB | apply qC)); exact HO_10.out))) (Kd.R_lt (by (with_reducible repeat (first | apply qA | apply qB | apply qC)); exact HO_14.out))) (Kd.R_lt (by (with_reducible repeat (first | apply qA | apply qB | apply qC)); exact HO_18.out))) (below_size (by repeat (first | (with_reducible first | exact HB.out | apply qD | apply qE | apply qF) | exact HB.out)))); have n5_ := Aside0.mk (below_step (by repeat (first | (with_reducible first | exact HB.out | apply qD | apply qE | apply qF) | exact HB.out)) hb); clear HO_5; clear HO_10; clear HO_14; clear HO_18; clear HB; have HO_5 := n0_; have HO_10 := n1_; have HO_14 := n2_; have HO_18 := n3_; have HO548 := n4_; have HB := n5_; clear n0_ n1_ n2_ n3_ n4_ n5_; clear hb ho185; obtain ⟨Ao186, co186, eo186⟩ := Kd.R_slice HO_10.out; subst eo186))
             repeat (go_quiet (first | ((with_reducible refine gate_dst (N := 244) rfl ?_); (try (refine gate_guard (by rfl) ?_; dsimp only)); refine Kd.R_make (Kd.int .i64) _ 3 rfl (N := 244) rfl 24 _ _ rfl (t492.length : Int) rfl rfl Try.underlying24 (.int .i64 0) 8 info3 rfl (by decide) (by omega) 0 (ok := fun _ => True) (okp := fun _ => True) rfl (fun _ hk => hk) trivial (of_decide_eq_true (by first | (with_reducible assumption) | assumption)) (Nat.le_trans (Nat.mul_le_mul_right _ (of_decide_eq_true (by first | (with_reducible assumption) | assumption) : (t492.length : Int).toNat ≤ 35184372088832)) (by omega)) (Below.refl _ _) (Nat.le_refl _) ?_; intro v547 w184 ho185 hb hg_ hnew_; clear hg_ hnew_; (first | rw [← Ny546.out] at ho185 | (simp only [Int.reduceToNat] at ho185; rw [← Ny546.out] at ho185)); have n0_ := Aside0.mk (Kd.R_elder' (by (with_reducible repeat (first | apply qA | apply qB | apply qC)); exact HO_5.out) (Kd.R_base ho185) hb); have n1_ := Aside0.mk (Kd.R_elder' (by (with_reducible repeat (first | apply qA | apply qB | apply qC)); exact HO_10.out) (Kd.R_base ho185) hb); have n2_ := Aside0.mk (Kd.R_elder' (by (with_reducible repeat (first | apply qA | apply qB | apply qC)); exact HO_14.out) (Kd.R_base ho185) hb); have n3_ := Aside0.mk (Kd.R_elder' (by (with_reducible repeat (first | apply qA | apply qB | apply qC)); exact HO_18.out) (Kd.R_base ho185) hb); have n4_ := Aside0.mk (Kd.R_lower (Kd.R_new' (Kd.R_new' (Kd.R_new' (Kd.R_new' ho185 (Kd.R_lt (by (with_reducible repeat (first | apply qA | apply qB | apply qC)); exact HO_5.out))) (Kd.R_lt (by (with_reducible repeat (first | apply qA | apply qB | apply qC)); exact HO_10.out))) (Kd.R_lt (by (with_reducible repeat (first | apply qA | apply qB | apply qC)); exact HO_14.out))) (Kd.R_lt (by (with_reducible repeat (first | apply qA | apply qB | apply qC)); exact HO_18.out))) (below_size (by repeat (first | (with_reducible first | exact HB.out | apply qD | apply qE | apply qF) | exact HB.out)))); have n5_ := Aside0.mk (below_step (by repeat (first | (with_reducible first | exact HB.out | apply qD | apply qE | apply qF) | exact HB.out)) hb); clear HO_5; clear HO_10; clear HO_14; clear HO_18; clear HB; have HO_5 := n0_; have HO_10 := n1_; have HO_14 := n2_; have HO_18 := n3_; have HO548 := n4_; have HB := n5_; clear n0_ n1_ n2_ n3_ n4_ n5_; clear hb ho185; obtain ⟨Ao186, co186, eo186⟩ := Kd.R_slice HO_10.out; subst eo186)); try go_wp2_with (first | ((with_reducible refine gate_dst (N := 244) rfl ?_); (try (refine gate_guard (by rfl) ?_; dsimp only)); refine Kd.R_make (Kd.int .i64) _ 3 rfl (N := 244) rfl 24 _ _ rfl (t492.length : Int) rfl rfl Try.underlying24 (.int .i64 0) 8 info3 rfl (by decide) (by omega) 0 (ok := fun _ => True) (okp := fun _ => True) rfl (fun _ hk => hk) trivial (of_decide_eq_true (by first | (with_reducible assumption) | assumption)) (Nat.le_trans (Nat.mul_le_mul_right _ (of_decide_eq_true (by first | (with_reducible assumption) | assumption) : (t492.length : Int).toNat ≤ 35184372088832)) (by omega)) (Below.refl _ _) (Nat.le_refl _) ?_; intro v547 w184 ho185 hb hg_ hnew_; clear hg_ hnew_; (first | rw [← Ny546.out] at ho185 | (simp only [Int.reduceToNat] at ho185; rw [← Ny546.out] at ho185)); have n0_ := Aside0.mk (Kd.R_elder' (by (with_reducible repeat (first | apply qA | apply qB | apply qC)); exact HO_5.out) (Kd.R_base ho185) hb); have n1_ := Aside0.mk (Kd.R_elder' (by (with_reducible repeat (first | apply qA | apply qB | apply qC)); exact HO_10.out) (Kd.R_base ho185) hb); have n2_ := Aside0.mk (Kd.R_elder' (by (with_reducible repeat (first | apply qA | apply qB | apply qC)); exact HO_14.out) (Kd.R_base ho185) hb); have n3_ := Aside0.mk (Kd.R_elder' (by (with_reducible repeat (first | apply qA | apply qB | apply qC)); exact HO_18.out) (Kd.R_base ho185) hb); have n4_ := Aside0.mk (Kd.R_lower (Kd.R_new' (Kd.R_new' (Kd.R_new' (Kd.R_new' ho185 (Kd.R_lt (by (with_reducible repeat (first | apply qA | apply qB | apply qC)); exact HO_5.out))) (Kd.R_lt (by (with_reducible repeat (first | apply qA | apply qB | apply qC)); exact HO_10.out))) (Kd.R_lt (by (with_reducible repeat (first | apply qA | apply qB | apply qC)); exact HO_14.out))) (Kd.R_lt (by (with_reducible repeat (first | apply qA | apply qB | apply qC)); exact HO_18.out))) (below_size (by repeat (first | (with_reducible first | exact HB.out | apply qD | apply qE | apply qF) | exact HB.out)))); have n5_ := Aside0.mk (below_step (by repeat (first | (with_reducible first | exact HB.out | apply qD | apply qE | apply qF) | exact HB.out)) hb); clear HO_5; clear HO_10; clear HO_14; clear HO_18; clear HB; have HO_5 := n0_; have HO_10 := n1_; have HO_14 := n2_; have HO_18 := n3_; have HO548 := n4_; have HB := n5_; clear n0_ n1_ n2_ n3_ n4_ n5_; clear hb ho185; obtain ⟨Ao186, co186, eo186⟩ := Kd.R_slice HO_10.out; subst eo186)))
             go_loopg [36, 247] kj175 (fun kq v36 v247 w' => ∃ (x35_4 : List Int) (x36_4 : Int) (x247_4 : Int), v36 = .int .i64 x36_4 ∧ v247 = .int .i64 x247_4 ∧ Aside0 (laws_FnForestsTold.l1 kq l1 t492 t511 t519 t535 x35_4 x36_4 t503 (t503.length : Int) x247_4 = some true) ∧ Aside0 (kq ≤ kj175) ∧ Aside0 (Kd.R (Kd.int .i64) 3 w' w.heap.size (fun k_ => some k_ ≠ (v513 : Value).ownBlock ∧ some k_ ≠ (v521 : Value).ownBlock ∧ some k_ ≠ (v547 : Value).ownBlock ∧ some k_ ≠ ((.slice Ao186 t503.length co186) : Value).ownBlock) (.slice Ao18 t492.length co18) t492) ∧ Aside0 (Kd.R (Kd.int .i64) 3 w' w.heap.size (fun k_ => some k_ ≠ ((.slice Ao18 t492.length co18) : Value).ownBlock ∧ some k_ ≠ (v521 : Value).ownBlock ∧ some k_ ≠ (v547 : Value).ownBlock ∧ some k_ ≠ ((.slice Ao186 t503.length co186) : Value).ownBlock) v513 t511) ∧ Aside0 (Kd.R (Kd.int .i64) 3 w' w.heap.size (fun k_ => some k_ ≠ ((.slice Ao18 t492.length co18) : Value).ownBlock ∧ some k_ ≠ (v513 : Value).ownBlock ∧ some k_ ≠ (v547 : Value).ownBlock ∧ some k_ ≠ ((.slice Ao186 t503.length co186) : Value).ownBlock) v521 t519) ∧ Aside0 (Kd.R (Kd.int .i64) 3 w' w.heap.size (fun k_ => some k_ ≠ ((.slice Ao18 t492.length co18) : Value).ownBlock ∧ some k_ ≠ (v513 : Value).ownBlock ∧ some k_ ≠ (v521 : Value).ownBlock ∧ some k_ ≠ ((.slice Ao186 t503.length co186) : Value).ownBlock) v547 x35_4) ∧ Aside0 (Kd.R (Kd.int .i64) 3 w' w.heap.size (fun k_ => some k_ ≠ ((.slice Ao18 t492.length co18) : Value).ownBlock ∧ some k_ ≠ (v513 : Value).ownBlock ∧ some k_ ≠ (v521 : Value).ownBlock ∧ some k_ ≠ (v547 : Value).ownBlock) (.slice Ao186 t503.length co186) t503) ∧ Aside0 (Below w.heap.size w w'))
             case atStart => exact ⟨(y546), (0), (0), (by first | rfl | (simp; done) | (simp [*]; done)), (by first | rfl | (simp; done) | (simp [*]; done)), H', ⟨Nat.le_refl _⟩, ⟨by (with_reducible repeat (first | apply qA | apply qB | apply qC)); exact Kd.R_mono HO_5.out (fun _ hk => ⟨hk.1.2.1, ⟨hk.1.2.2, ⟨hk.2, hk.1.1⟩⟩⟩)⟩, ⟨by (with_reducible repeat (first | apply qA | apply qB | apply qC)); exact Kd.R_mono HO_14.out (fun _ hk => ⟨hk.1.1, ⟨hk.1.2.2, ⟨hk.2, hk.1.2.1⟩⟩⟩)⟩, ⟨by (with_reducible repeat (first | apply qA | apply qB | apply qC)); exact Kd.R_mono HO_18.out (fun _ hk => ⟨hk.1.1, ⟨hk.1.2.2, ⟨hk.2, hk.1.2.1⟩⟩⟩)⟩, ⟨by (with_reducible repeat (first | apply qA | apply qB | apply qC)); exact Kd.R_mono HO548.out (fun _ hk => ⟨hk.1.1.1.2, ⟨hk.1.2, ⟨hk.2, hk.1.1.2⟩⟩⟩)⟩, ⟨by (with_reducible repeat (first | apply qA | apply qB | apply qC)); exact Kd.R_mono HO_10.out (fun _ hk => ⟨hk.1.1, ⟨hk.1.2.1, ⟨hk.1.2.2, hk.2⟩⟩⟩)⟩, ⟨by repeat (first | (with_reducible first | exact HB.out | apply qD | apply qE | apply qF) | exact HB.out)⟩⟩
             case round =>
              clear H'
              try clear c1
              try clear c2
              try clear p2
              try clear c3
              try clear c4
              try clear c5
              try clear p5
              try clear q5
              try clear hx5
              try clear c6
              try clear p6
              try clear c7
              try clear c8
              try clear c10
              try clear c11
              try clear c12
              try clear c16
              try clear c17
              try clear c18
              try clear c27
              try clear c27b0
              try clear c27b1
              try clear c27b2
              try clear c29
              try clear c30
              try clear c30b0
              try clear c30b1
              try clear c30b2
              try clear c34
              try clear c35
              try clear c35b0
              try clear c35b1
              try clear c35b2
              try clear c41
              try clear c42
              try clear c42b0
              try clear c42b1
              try clear c42b2
              try clear c50
              try clear c51
              try clear c51b0
              try clear c51b1
              try clear c51b2
              try clear c53
              try clear p53
              try clear q53
              try clear hx53
              try clear c60
              try clear c60b0
              try clear c60b1
              try clear c60b2
              try clear p64
              try clear c69
              try clear c70
              try clear c70b0
              try clear c70b1
              try clear c70b2
              try clear c79
              try clear c79b0
              try clear c79b1
              try clear c79b2
              try clear c88
              try clear c88b0
              try clear c88b1
              try clear c88b2
              try clear c105
              try clear c105b0
              try clear c105b1
              try clear c105b2
              try clear c114
              try clear c114b0
              try clear c114b1
              try clear c114b2
              try clear c123
              try clear c123b0
              try clear c123b1
              try clear c123b2
              try clear c160
              try clear c162
              try clear c165
              try clear c165b0
              try clear c166
              try clear c166b0
              try clear c167
              try clear c167b0
              try clear c170
              try clear c171
              try clear c171b0
              try clear c171b1
              try clear c172
              try clear c173
              try clear c174
              try clear c177
              try clear c178
              try clear c178b0
              try clear c178b1
              try clear c181
              try clear c182
              try clear c182b0
              try clear c182b1
              try clear c183
              try clear c183b0
              try clear c183b1
              try clear hx537_0
              try clear p2
              try clear p5
              try clear p53
              try clear p537
              try clear p6
              try clear p64
              try clear q5
              try clear q53
              try clear q537
              obtain ⟨x35_4, x36_4, x247_4, rfl, rfl, HA, HK4, HO_5, HO_14, HO_18, HO_35, HO_245, HB⟩ := hrel
              cases gk with
              | zero => exact absurd HA.out (by simp [laws_FnForestsTold.l1])
              | succ k4 =>
               have H := HA.out
               clear HA
               simp only [laws_FnForestsTold.l1] at H
               by_cases c187 : x247_4 < (t503.length : Int)
               ·rw [if_pos c187] at H
                have c187b0 : decide (x247_4 < (t503.length : Int)) = true := decide_eq_true c187
                clear c187
                by_cases c188 : 0 ≤ x247_4
                ·rw [if_pos c188] at H
                 have c188b0 : decide (0 ≤ x247_4) = true := decide_eq_true c188
                 clear c188
                 by_cases c189 : x247_4 < (t503.length : Int)
                 ·rw [if_pos c189] at H
                  have c189b0 : decide (x247_4 < (t503.length : Int)) = true := decide_eq_true c189
                  clear c189
                  by_cases c190 : (rd t503 x247_4) < 0
                  ·rw [if_pos c190] at H
                   have c190b0 : decide ((rd t503 x247_4) < 0) = true := decide_eq_true c190
                   clear c190
                   by_cases c191 : x247_4 < (t511.length : Int)
                   ·rw [if_pos c191] at H
                    have c191b0 : decide (x247_4 < (t511.length : Int)) = true := decide_eq_true c191
                    clear c191
                    by_cases c192 : (rd t511 x247_4) = 0
                    ·rw [if_pos c192] at H
                     have c192b0 : ((rd t511 x247_4) == 0) = true := beq_iff_eq.mpr c192
                     have c192b1 : ((rd t511 x247_4) != 0) = false := bne_eq_false_iff_eq.mpr c192
                     clear c192
                     have H' := Aside0.mk H
                     clear H
                     have p549 : 0 ≤ (x247_4 : Int) := of_decide_eq_true (by first | (with_reducible assumption) | assumption)
                     have q549 : x247_4 < (t503.length : Int) := of_decide_eq_true (by first | (with_reducible assumption) | assumption)
                     obtain ⟨ad549, e549, hx549_0⟩ := Kd.at_int (Kd.R_reads' HO_245.out).2.2 x247_4 p549 q549
                     cases e549
                     replace p549 := eq_true p549
                     replace q549 := eq_true q549
                     obtain ⟨Ao193, co193, eo193⟩ := Kd.R_slice HO_14.out
                     subst eo193
                     have p550 : 0 ≤ (x247_4 : Int) := of_decide_eq_true (by first | (with_reducible assumption) | assumption)
                     have q550 : x247_4 < (t511.length : Int) := of_decide_eq_true (by first | (with_reducible assumption) | assumption)
                     obtain ⟨ad550, e550, hx550_0⟩ := Kd.at_int (Kd.R_reads' HO_14.out).2.2 x247_4 p550 q550
                     cases e550
                     replace p550 := eq_true p550
                     replace q550 := eq_true q550
                     go_wp2
                     repeat (go_quiet (fail); try go_wp2)
                     go_roundg k4
                     case measure => have := HJ15.out; have := HK2.out; have := HJ175.out; have := HK4.out; omega
                     case rel => exact ⟨(x35_4), (wrap64 (x36_4 + 1)), (wrap64 (x247_4 + 1)), (by first | rfl | (simp; done) | (simp [*]; done)), (by first | rfl | (simp; done) | (simp [*]; done)), H', ⟨by have := HJ15.out; have := HK2.out; have := HJ175.out; have := HK4.out; omega⟩, ⟨by (with_reducible repeat (first | apply qA | apply qB | apply qC)); exact HO_5.out⟩, ⟨by (with_reducible repeat (first | apply qA | apply qB | apply qC)); exact HO_14.out⟩, ⟨by (with_reducible repeat (first | apply qA | apply qB | apply qC)); exact HO_18.out⟩, ⟨by (with_reducible repeat (first | apply qA | apply qB | apply qC)); exact HO_35.out⟩, ⟨by (with_reducible repeat (first | apply qA | apply qB | apply qC)); exact HO_245.out⟩, ⟨by repeat (first | (with_reducible first | exact HB.out | apply qD | apply qE | apply qF) | exact HB.out)⟩⟩
                    ·rw [if_neg c192] at H
                     have c192b0 : ((rd t511 x247_4) == 0) = false := beq_eq_false_iff_ne.mpr c192
                     have c192b1 : ((rd t511 x247_4) != 0) = true := bne_iff_ne.mpr c192
                     (first | exact absurd H (by simp; done) | exact absurd H laws_FnForestsTold.j0_no | exact absurd H laws_FnForestsTold.j5_no | exact absurd H laws_FnForestsTold.j6_no | exact absurd H laws_FnForestsTold.j2_no)
                   ·rw [if_neg c191] at H
                    exact absurd H (by simp)
                  ·rw [if_neg c190] at H
                   have c190b0 : decide ((rd t503 x247_4) < 0) = false := decide_eq_false c190
                   clear c190
                   by_cases c195 : (rd t503 x247_4) ≥ x247_4
                   ·rw [if_pos c195] at H
                    have c195b0 : decide (x247_4 ≤ (rd t503 x247_4)) = true := decide_eq_true c195
                    clear c195
                    (first | exact absurd H (by simp; done) | exact absurd H laws_FnForestsTold.j0_no | exact absurd H laws_FnForestsTold.j5_no | exact absurd H laws_FnForestsTold.j6_no | exact absurd H laws_FnForestsTold.j2_no)
                   ·rw [if_neg c195] at H
                    have c195b0 : decide (x247_4 ≤ (rd t503 x247_4)) = false := decide_eq_false c195
                    clear c195
                    by_cases c196 : x247_4 < (t511.length : Int)
                    ·rw [if_pos c196] at H
                     have c196b0 : decide (x247_4 < (t511.length : Int)) = true := decide_eq_true c196
                     clear c196
                     by_cases c197 : 0 ≤ (rd t503 x247_4)
                     ·rw [if_pos c197] at H
                      have c197b0 : decide (0 ≤ (rd t503 x247_4)) = true := decide_eq_true c197
                      clear c197
                      by_cases c198 : (rd t503 x247_4) < (t511.length : Int)
                      ·rw [if_pos c198] at H
                       have c198b0 : decide ((rd t503 x247_4) < (t511.length : Int)) = true := decide_eq_true c198
                       clear c198
                       by_cases c199 : (rd t511 x247_4) = (wrap64 ((rd t511 (rd t503 x247_4)) + 1))
                       ·rw [if_pos c199] at H
                        have c199b0 : ((rd t511 x247_4) == (wrap64 ((rd t511 (rd t503 x247_4)) + 1))) = true := beq_iff_eq.mpr c199
                        have c199b1 : ((rd t511 x247_4) != (wrap64 ((rd t511 (rd t503 x247_4)) + 1))) = false := bne_eq_false_iff_eq.mpr c199
                        clear c199
                        by_cases c200 : (rd t503 x247_4) < (x35_4.length : Int)
                        ·rw [if_pos c200] at H
                         have c200b0 : decide ((rd t503 x247_4) < (x35_4.length : Int)) = true := decide_eq_true c200
                         clear c200
                         obtain ⟨y554, hy554⟩ : ∃ y_ : List Int, y_ = (x35_4.set ((rd t503 x247_4) : Int).toNat (wrap64 ((rd x35_4 (rd t503 x247_4)) + 1))) := ⟨_, rfl⟩
                         replace H : (laws_FnForestsTold.l1 k4 l1 t492 t511 t519 t535 y554 x36_4 t503 (t503.length : Int) (wrap64 (x247_4 + 1))) = some true := by first | (rw [hy554]; with_reducible exact H) | (have H2_ := (Option.bind_some _ _).symm.trans H; rw [hy554]; with_reducible exact H2_) | (have H2_ := (Option.bind_some _ _).symm.trans H; with_reducible exact H2_) | with_reducible exact H | (rw [hy554]; exact H) | exact H
                         have Ny554 := Aside0.mk hy554
                         clear hy554
                         have H' := Aside0.mk H
                         clear H
                         have p549 : 0 ≤ (x247_4 : Int) := of_decide_eq_true (by first | (with_reducible assumption) | assumption)
                         have q549 : x247_4 < (t503.length : Int) := of_decide_eq_true (by first | (with_reducible assumption) | assumption)
                         obtain ⟨ad549, e549, hx549_0⟩ := Kd.at_int (Kd.R_reads' HO_245.out).2.2 x247_4 p549 q549
                         cases e549
                         replace p549 := eq_true p549
                         replace q549 := eq_true q549
                         obtain ⟨Ao202, co202, eo202⟩ := Kd.R_slice HO_14.out
                         subst eo202
                         have p551 : 0 ≤ (x247_4 : Int) := of_decide_eq_true (by first | (with_reducible assumption) | assumption)
                         have q551 : x247_4 < (t511.length : Int) := of_decide_eq_true (by first | (with_reducible assumption) | assumption)
                         obtain ⟨ad551, e551, hx551_0⟩ := Kd.at_int (Kd.R_reads' HO_14.out).2.2 x247_4 p551 q551
                         cases e551
                         replace p551 := eq_true p551
                         replace q551 := eq_true q551
                         have p552 : 0 ≤ ((rd t503 x247_4) : Int) := of_decide_eq_true (by first | (with_reducible assumption) | assumption)
                         have q552 : (rd t503 x247_4) < (t511.length : Int) := of_decide_eq_true (by first | (with_reducible assumption) | assumption)
                         obtain ⟨ad552, e552, hx552_0⟩ := Kd.at_int (Kd.R_reads' HO_14.out).2.2 (rd t503 x247_4) p552 q552
                         obtain rfl : ad551 = ad552 := (by injection e552)
                         replace p552 := eq_true p552
                         replace q552 := eq_true q552
                         obtain ⟨Ao203, co203, eo203⟩ := Kd.R_slice HO_35.out
                         subst eo203
                         have p553 : 0 ≤ ((rd t503 x247_4) : Int) := of_decide_eq_true (by first | (with_reducible assumption) | assumption)
                         have q553 : (rd t503 x247_4) < (x35_4.length : Int) := of_decide_eq_true (by first | (with_reducible assumption) | assumption)
                         obtain ⟨ad553, e553, hx553_0⟩ := Kd.at_int (Kd.R_reads' HO_35.out).2.2 (rd t503 x247_4) p553 q553
                         cases e553
                         replace p553 := eq_true p553
                         replace q553 := eq_true q553
                         have p201 : 0 ≤ ((rd t503 x247_4) : Int) := of_decide_eq_true (by first | (with_reducible assumption) | assumption)
                         have q201 : ((rd t503 x247_4) : Int) < ((x35_4.length : Int) : Int) := of_decide_eq_true (by first | (with_reducible assumption) | assumption)
                         obtain ⟨go201, co201, eo201, gb201, gl201, cl201, HG201⟩ := Kd.R_form HO_35.out (by omega)
                         (first | cases eo201 | (injection eo201 with ea_ en_ ec_; (first | subst ea_ | (injection ea_ with ea_; subst ea_)); subst ec_; clear en_))
                         have GB201 := Aside0.mk gb201
                         have GG201 := Aside0.mk HG201
                         clear gb201 gl201 HG201
                         (first | simp only [add_plain] at hx553_0 | skip)
                         obtain ⟨hx201_0, hf201_0⟩ := Kd.R_celln 0 HO_35.out ((rd t503 x247_4) : Int) p201 q201
                         replace p201 := eq_true p201
                         replace q201 := eq_true q201
                         have HP204 := Kd.R_putg HO_35.out ((rd t503 x247_4) : Int) (wrap64 ((rd x35_4 (rd t503 x247_4)) + 1))
                         go_wp2_with (first | ((with_reducible refine gate_store (t := 3) (p := 281) rfl ?_); (try (rw [drewN_self wr]; generalize hq_ : World.drewN wr _ = wr; have n0_ := Aside0.mk (Kd.R_at hq_ HO_5.out); have n1_ := Aside0.mk (Kd.R_at hq_ HO_14.out); have n2_ := Aside0.mk (Kd.R_at hq_ HO_18.out); have n3_ := Aside0.mk (Kd.R_at hq_ HO_35.out); have n4_ := Aside0.mk (Kd.R_at hq_ HO_245.out); have n5_ := Aside0.mk (below_at hq_ HB.out); clear hq_ HO_5 HO_14 HO_18 HO_35 HO_245 HB; have HO_5 := n0_; have HO_14 := n1_; have HO_18 := n2_; have HO_35 := n3_; have HO_245 := n4_; have HB := n5_; clear n0_ n1_ n2_ n3_ n4_ n5_; (try (have HP204 := Kd.R_putg HO_35.out ((rd t503 x247_4) : Int) (wrap64 ((rd x35_4 (rd t503 x247_4)) + 1)))); (try (obtain ⟨hx201_0, hf201_0⟩ := Kd.R_celln 0 HO_35.out ((rd t503 x247_4) : Int) (of_eq_true p201) (of_eq_true q201))))); refine store_event (t := 3) (p := 281) (v := ?vo_w205) (w1 := (wr.setCell ⟨go201, ((rd t503 x247_4) : Int).toNat, none⟩ (.int .i64 (wrap64 ((rd x35_4 (rd t503 x247_4)) + 1))))) ?hg ?ho ?hn ?hr ?_; (case ho => rfl); (case hg => rfl); (case hn => rfl); (case hr => first | (go_simp; done) | (go_simp; rfl)); intro w205 hw; have hg : wr.grownBy w205 (some go201) := (by rw [hw]; exact HP204.2); have hp_ : Kd.R (Kd.int .i64) 3 w205 w.heap.size (fun k_ => some k_ ≠ (.slice Ao18 t492.length co18 : Value).ownBlock ∧ some k_ ≠ (.slice (some ad551) t511.length co202 : Value).ownBlock ∧ some k_ ≠ (v521 : Value).ownBlock ∧ some k_ ≠ (.slice (some ad549) t503.length co186 : Value).ownBlock) (.slice (some ⟨go201, 0, none⟩) x35_4.length co203) y554 := (by rw [hw, Ny554.out]; exact HP204.1); clear HP204; have n0_ := Aside0.mk (Kd.R_after (v := (.slice (some ⟨go201, 0, none⟩) x35_4.length co203)) (v1 := (.slice (some ⟨go201, 0, none⟩) x35_4.length co203)) (ok := (fun k_ => some k_ ≠ (.slice (some ad551) t511.length co202 : Value).ownBlock ∧ some k_ ≠ (v521 : Value).ownBlock ∧ some k_ ≠ (.slice (some ad549) t503.length co186 : Value).ownBlock)) (by (with_reducible repeat (first | apply qA | apply qB | apply qC)); exact Kd.R_mono HO_5.out (fun _ hk => ⟨⟨hk.1, ⟨hk.2.1, hk.2.2.2⟩⟩, hk.2.2.1⟩)) hg (.inl rfl)); have n1_ := Aside0.mk (Kd.R_after (v := (.slice (some ⟨go201, 0, none⟩) x35_4.length co203)) (v1 := (.slice (some ⟨go201, 0, none⟩) x35_4.length co203)) (ok := (fun k_ => some k_ ≠ (.slice Ao18 t492.length co18 : Value).ownBlock ∧ some k_ ≠ (v521 : Value).ownBlock ∧ some k_ ≠ (.slice (some ad549) t503.length co186 : Value).ownBlock)) (by (with_reducible repeat (first | apply qA | apply qB | apply qC)); exact Kd.R_mono HO_14.out (fun _ hk => ⟨⟨hk.1, ⟨hk.2.1, hk.2.2.2⟩⟩, hk.2.2.1⟩)) hg (.inl rfl)); have n2_ := Aside0.mk (Kd.R_after (v := (.slice (some ⟨go201, 0, none⟩) x35_4.length co203)) (v1 := (.slice (some ⟨go201, 0, none⟩) x35_4.length co203)) (ok := (fun k_ => some k_ ≠ (.slice Ao18 t492.length co18 : Value).ownBlock ∧ some k_ ≠ (.slice (some ad551) t511.length co202 : Value).ownBlock ∧ some k_ ≠ (.slice (some ad549) t503.length co186 : Value).ownBlock)) (by (with_reducible repeat (first | apply qA | apply qB | apply qC)); exact Kd.R_mono HO_18.out (fun _ hk => ⟨⟨hk.1, ⟨hk.2.1, hk.2.2.2⟩⟩, hk.2.2.1⟩)) hg (.inl rfl)); have n3_ := Aside0.mk (hp_); have n4_ := Aside0.mk (Kd.R_after (v := (.slice (some ⟨go201, 0, none⟩) x35_4.length co203)) (v1 := (.slice (some ⟨go201, 0, none⟩) x35_4.length co203)) (ok := (fun k_ => some k_ ≠ (.slice Ao18 t492.length co18 : Value).ownBlock ∧ some k_ ≠ (.slice (some ad551) t511.length co202 : Value).ownBlock ∧ some k_ ≠ (v521 : Value).ownBlock)) (by (with_reducible repeat (first | apply qA | apply qB | apply qC)); exact Kd.R_mono HO_245.out (fun _ hk => ⟨⟨hk.1, ⟨hk.2.1, hk.2.2.1⟩⟩, hk.2.2.2⟩)) hg (.inl rfl)); have n5_ := Aside0.mk ((by rw [hw]; exact below_set (HB.out) GB201.out : Below w.heap.size w w205)); clear HO_5; clear HO_14; clear HO_18; clear HO_35; clear HO_245; clear HB; have HO_5 := n0_; have HO_14 := n1_; have HO_18 := n2_; have HO_35 := n3_; have HO_245 := n4_; have HB := n5_; clear n0_ n1_ n2_ n3_ n4_ n5_; clear hg hw hp_))
                         repeat (go_quiet (first | ((with_reducible refine gate_store (t := 3) (p := 281) rfl ?_); (try (rw [drewN_self wr]; generalize hq_ : World.drewN wr _ = wr; have n0_ := Aside0.mk (Kd.R_at hq_ HO_5.out); have n1_ := Aside0.mk (Kd.R_at hq_ HO_14.out); have n2_ := Aside0.mk (Kd.R_at hq_ HO_18.out); have n3_ := Aside0.mk (Kd.R_at hq_ HO_35.out); have n4_ := Aside0.mk (Kd.R_at hq_ HO_245.out); have n5_ := Aside0.mk (below_at hq_ HB.out); clear hq_ HO_5 HO_14 HO_18 HO_35 HO_245 HB; have HO_5 := n0_; have HO_14 := n1_; have HO_18 := n2_; have HO_35 := n3_; have HO_245 := n4_; have HB := n5_; clear n0_ n1_ n2_ n3_ n4_ n5_; (try (have HP204 := Kd.R_putg HO_35.out ((rd t503 x247_4) : Int) (wrap64 ((rd x35_4 (rd t503 x247_4)) + 1)))); (try (obtain ⟨hx201_0, hf201_0⟩ := Kd.R_celln 0 HO_35.out ((rd t503 x247_4) : Int) (of_eq_true p201) (of_eq_true q201))))); refine store_event (t := 3) (p := 281) (v := ?vo_w205) (w1 := (wr.setCell ⟨go201, ((rd t503 x247_4) : Int).toNat, none⟩ (.int .i64 (wrap64 ((rd x35_4 (rd t503 x247_4)) + 1))))) ?hg ?ho ?hn ?hr ?_; (case ho => rfl); (case hg => rfl); (case hn => rfl); (case hr => first | (go_simp; done) | (go_simp; rfl)); intro w205 hw; have hg : wr.grownBy w205 (some go201) := (by rw [hw]; exact HP204.2); have hp_ : Kd.R (Kd.int .i64) 3 w205 w.heap.size (fun k_ => some k_ ≠ (.slice Ao18 t492.length co18 : Value).ownBlock ∧ some k_ ≠ (.slice (some ad551) t511.length co202 : Value).ownBlock ∧ some k_ ≠ (v521 : Value).ownBlock ∧ some k_ ≠ (.slice (some ad549) t503.length co186 : Value).ownBlock) (.slice (some ⟨go201, 0, none⟩) x35_4.length co203) y554 := (by rw [hw, Ny554.out]; exact HP204.1); clear HP204; have n0_ := Aside0.mk (Kd.R_after (v := (.slice (some ⟨go201, 0, none⟩) x35_4.length co203)) (v1 := (.slice (some ⟨go201, 0, none⟩) x35_4.length co203)) (ok := (fun k_ => some k_ ≠ (.slice (some ad551) t511.length co202 : Value).ownBlock ∧ some k_ ≠ (v521 : Value).ownBlock ∧ some k_ ≠ (.slice (some ad549) t503.length co186 : Value).ownBlock)) (by (with_reducible repeat (first | apply qA | apply qB | apply qC)); exact Kd.R_mono HO_5.out (fun _ hk => ⟨⟨hk.1, ⟨hk.2.1, hk.2.2.2⟩⟩, hk.2.2.1⟩)) hg (.inl rfl)); have n1_ := Aside0.mk (Kd.R_after (v := (.slice (some ⟨go201, 0, none⟩) x35_4.length co203)) (v1 := (.slice (some ⟨go201, 0, none⟩) x35_4.length co203)) (ok := (fun k_ => some k_ ≠ (.slice Ao18 t492.length co18 : Value).ownBlock ∧ some k_ ≠ (v521 : Value).ownBlock ∧ some k_ ≠ (.slice (some ad549) t503.length co186 : Value).ownBlock)) (by (with_reducible repeat (first | apply qA | apply qB | apply qC)); exact Kd.R_mono HO_14.out (fun _ hk => ⟨⟨hk.1, ⟨hk.2.1, hk.2.2.2⟩⟩, hk.2.2.1⟩)) hg (.inl rfl)); have n2_ := Aside0.mk (Kd.R_after (v := (.slice (some ⟨go201, 0, none⟩) x35_4.length co203)) (v1 := (.slice (some ⟨go201, 0, none⟩) x35_4.length co203)) (ok := (fun k_ => some k_ ≠ (.slice Ao18 t492.length co18 : Value).ownBlock ∧ some k_ ≠ (.slice (some ad551) t511.length co202 : Value).ownBlock ∧ some k_ ≠ (.slice (some ad549) t503.length co186 : Value).ownBlock)) (by (with_reducible repeat (first | apply qA | apply qB | apply qC)); exact Kd.R_mono HO_18.out (fun _ hk => ⟨⟨hk.1, ⟨hk.2.1, hk.2.2.2⟩⟩, hk.2.2.1⟩)) hg (.inl rfl)); have n3_ := Aside0.mk (hp_); have n4_ := Aside0.mk (Kd.R_after (v := (.slice (some ⟨go201, 0, none⟩) x35_4.length co203)) (v1 := (.slice (some ⟨go201, 0, none⟩) x35_4.length co203)) (ok := (fun k_ => some k_ ≠ (.slice Ao18 t492.length co18 : Value).ownBlock ∧ some k_ ≠ (.slice (some ad551) t511.length co202 : Value).ownBlock ∧ some k_ ≠ (v521 : Value).ownBlock)) (by (with_reducible repeat (first | apply qA | apply qB | apply qC)); exact Kd.R_mono HO_245.out (fun _ hk => ⟨⟨hk.1, ⟨hk.2.1, hk.2.2.1⟩⟩, hk.2.2.2⟩)) hg (.inl rfl)); have n5_ := Aside0.mk ((by rw [hw]; exact below_set (HB.out) GB201.out : Below w.heap.size w w205)); clear HO_5; clear HO_14; clear HO_18; clear HO_35; clear HO_245; clear HB; have HO_5 := n0_; have HO_14 := n1_; have HO_18 := n2_; have HO_35 := n3_; have HO_245 := n4_; have HB := n5_; clear n0_ n1_ n2_ n3_ n4_ n5_; clear hg hw hp_)); try go_wp2_with (first | ((with_reducible refine gate_store (t := 3) (p := 281) rfl ?_); (try (rw [drewN_self wr]; generalize hq_ : World.drewN wr _ = wr; have n0_ := Aside0.mk (Kd.R_at hq_ HO_5.out); have n1_ := Aside0.mk (Kd.R_at hq_ HO_14.out); have n2_ := Aside0.mk (Kd.R_at hq_ HO_18.out); have n3_ := Aside0.mk (Kd.R_at hq_ HO_35.out); have n4_ := Aside0.mk (Kd.R_at hq_ HO_245.out); have n5_ := Aside0.mk (below_at hq_ HB.out); clear hq_ HO_5 HO_14 HO_18 HO_35 HO_245 HB; have HO_5 := n0_; have HO_14 := n1_; have HO_18 := n2_; have HO_35 := n3_; have HO_245 := n4_; have HB := n5_; clear n0_ n1_ n2_ n3_ n4_ n5_; (try (have HP204 := Kd.R_putg HO_35.out ((rd t503 x247_4) : Int) (wrap64 ((rd x35_4 (rd t503 x247_4)) + 1)))); (try (obtain ⟨hx201_0, hf201_0⟩ := Kd.R_celln 0 HO_35.out ((rd t503 x247_4) : Int) (of_eq_true p201) (of_eq_true q201))))); refine store_event (t := 3) (p := 281) (v := ?vo_w205) (w1 := (wr.setCell ⟨go201, ((rd t503 x247_4) : Int).toNat, none⟩ (.int .i64 (wrap64 ((rd x35_4 (rd t503 x247_4)) + 1))))) ?hg ?ho ?hn ?hr ?_; (case ho => rfl); (case hg => rfl); (case hn => rfl); (case hr => first | (go_simp; done) | (go_simp; rfl)); intro w205 hw; have hg : wr.grownBy w205 (some go201) := (by rw [hw]; exact HP204.2); have hp_ : Kd.R (Kd.int .i64) 3 w205 w.heap.size (fun k_ => some k_ ≠ (.slice Ao18 t492.length co18 : Value).ownBlock ∧ some k_ ≠ (.slice (some ad551) t511.length co202 : Value).ownBlock ∧ some k_ ≠ (v521 : Value).ownBlock ∧ some k_ ≠ (.slice (some ad549) t503.length co186 : Value).ownBlock) (.slice (some ⟨go201, 0, none⟩) x35_4.length co203) y554 := (by rw [hw, Ny554.out]; exact HP204.1); clear HP204; have n0_ := Aside0.mk (Kd.R_after (v := (.slice (some ⟨go201, 0, none⟩) x35_4.length co203)) (v1 := (.slice (some ⟨go201, 0, none⟩) x35_4.length co203)) (ok := (fun k_ => some k_ ≠ (.slice (some ad551) t511.length co202 : Value).ownBlock ∧ some k_ ≠ (v521 : Value).ownBlock ∧ some k_ ≠ (.slice (some ad549) t503.length co186 : Value).ownBlock)) (by (with_reducible repeat (first | apply qA | apply qB | apply qC)); exact Kd.R_mono HO_5.out (fun _ hk => ⟨⟨hk.1, ⟨hk.2.1, hk.2.2.2⟩⟩, hk.2.2.1⟩)) hg (.inl rfl)); have n1_ := Aside0.mk (Kd.R_after (v := (.slice (some ⟨go201, 0, none⟩) x35_4.length co203)) (v1 := (.slice (some ⟨go201, 0, none⟩) x35_4.length co203)) (ok := (fun k_ => some k_ ≠ (.slice Ao18 t492.length co18 : Value).ownBlock ∧ some k_ ≠ (v521 : Value).ownBlock ∧ some k_ ≠ (.slice (some ad549) t503.length co186 : Value).ownBlock)) (by (with_reducible repeat (first | apply qA | apply qB | apply qC)); exact Kd.R_mono HO_14.out (fun _ hk => ⟨⟨hk.1, ⟨hk.2.1, hk.2.2.2⟩⟩, hk.2.2.1⟩)) hg (.inl rfl)); have n2_ := Aside0.mk (Kd.R_after (v := (.slice (some ⟨go201, 0, none⟩) x35_4.length co203)) (v1 := (.slice (some ⟨go201, 0, none⟩) x35_4.length co203)) (ok := (fun k_ => some k_ ≠ (.slice Ao18 t492.length co18 : Value).ownBlock ∧ some k_ ≠ (.slice (some ad551) t511.length co202 : Value).ownBlock ∧ some k_ ≠ (.slice (some ad549) t503.length co186 : Value).ownBlock)) (by (with_reducible repeat (first | apply qA | apply qB | apply qC)); exact Kd.R_mono HO_18.out (fun _ hk => ⟨⟨hk.1, ⟨hk.2.1, hk.2.2.2⟩⟩, hk.2.2.1⟩)) hg (.inl rfl)); have n3_ := Aside0.mk (hp_); have n4_ := Aside0.mk (Kd.R_after (v := (.slice (some ⟨go201, 0, none⟩) x35_4.length co203)) (v1 := (.slice (some ⟨go201, 0, none⟩) x35_4.length co203)) (ok := (fun k_ => some k_ ≠ (.slice Ao18 t492.length co18 : Value).ownBlock ∧ some k_ ≠ (.slice (some ad551) t511.length co202 : Value).ownBlock ∧ some k_ ≠ (v521 : Value).ownBlock)) (by (with_reducible repeat (first | apply qA | apply qB | apply qC)); exact Kd.R_mono HO_245.out (fun _ hk => ⟨⟨hk.1, ⟨hk.2.1, hk.2.2.1⟩⟩, hk.2.2.2⟩)) hg (.inl rfl)); have n5_ := Aside0.mk ((by rw [hw]; exact below_set (HB.out) GB201.out : Below w.heap.size w w205)); clear HO_5; clear HO_14; clear HO_18; clear HO_35; clear HO_245; clear HB; have HO_5 := n0_; have HO_14 := n1_; have HO_18 := n2_; have HO_35 := n3_; have HO_245 := n4_; have HB := n5_; clear n0_ n1_ n2_ n3_ n4_ n5_; clear hg hw hp_)))
                         go_roundg k4
                         case measure => have := HJ15.out; have := HK2.out; have := HJ175.out; have := HK4.out; omega
                         case rel => exact ⟨(y554), (x36_4), (wrap64 (x247_4 + 1)), (by first | rfl | (simp; done) | (simp [*]; done)), (by first | rfl | (simp; done) | (simp [*]; done)), H', ⟨by have := HJ15.out; have := HK2.out; have := HJ175.out; have := HK4.out; omega⟩, ⟨by (with_reducible repeat (first | apply qA | apply qB | apply qC)); exact Kd.R_mono HO_5.out (fun _ hk => ⟨hk.1.1, ⟨hk.1.2.1, ⟨hk.2, hk.1.2.2⟩⟩⟩)⟩, ⟨by (with_reducible repeat (first | apply qA | apply qB | apply qC)); exact Kd.R_mono HO_14.out (fun _ hk => ⟨hk.1.1, ⟨hk.1.2.1, ⟨hk.2, hk.1.2.2⟩⟩⟩)⟩, ⟨by (with_reducible repeat (first | apply qA | apply qB | apply qC)); exact Kd.R_mono HO_18.out (fun _ hk => ⟨hk.1.1, ⟨hk.1.2.1, ⟨hk.2, hk.1.2.2⟩⟩⟩)⟩, ⟨by (with_reducible repeat (first | apply qA | apply qB | apply qC)); exact HO_35.out⟩, ⟨by (with_reducible repeat (first | apply qA | apply qB | apply qC)); exact Kd.R_mono HO_245.out (fun _ hk => ⟨hk.1.1, ⟨hk.1.2.1, ⟨hk.1.2.2, hk.2⟩⟩⟩)⟩, ⟨by repeat (first | (with_reducible first | exact HB.out | apply qD | apply qE | apply qF) | exact HB.out)⟩⟩
                        ·rw [if_neg c200] at H
                         exact absurd H (by simp)
                       ·rw [if_neg c199] at H
                        have c199b0 : ((rd t511 x247_4) == (wrap64 ((rd t511 (rd t503 x247_4)) + 1))) = false := beq_eq_false_iff_ne.mpr c199
                        have c199b1 : ((rd t511 x247_4) != (wrap64 ((rd t511 (rd t503 x247_4)) + 1))) = true := bne_iff_ne.mpr c199
                        (first | exact absurd H (by simp; done) | exact absurd H laws_FnForestsTold.j0_no | exact absurd H laws_FnForestsTold.j5_no | exact absurd H laws_FnForestsTold.j6_no | exact absurd H laws_FnForestsTold.j2_no)
                      ·rw [if_neg c198] at H
                       exact absurd H (by simp)
                     ·rw [if_neg c197] at H
                      exact absurd H (by simp)
                    ·rw [if_neg c196] at H
                     exact absurd H (by simp)
                 ·rw [if_neg c189] at H
                  exact absurd H (by simp)
                ·rw [if_neg c188] at H
                 exact absurd H (by simp)
               ·rw [if_neg c187] at H
                have c187b0 : decide (x247_4 < (t503.length : Int)) = false := decide_eq_false c187
                clear c187
                replace H := Option.bind_eq_some_iff.mp H
                obtain ⟨⟨t555, t556⟩, A2070, H⟩ := H
                (try dsimp only at H)
                have A207 := Aside0.mk A2070
                clear A2070
                replace H := Option.bind_eq_some_iff.mp H
                obtain ⟨⟨t559, t560⟩, A2080, H⟩ := H
                (try dsimp only at H)
                have A208 := Aside0.mk A2080
                clear A2080
                by_cases c209 : x36_4 = t535
                ·rw [if_pos c209] at H
                 have c209b0 : (x36_4 == t535) = true := beq_iff_eq.mpr c209
                 have c209b1 : (x36_4 != t535) = false := bne_eq_false_iff_eq.mpr c209
                 clear c209
                 replace H := Option.bind_eq_some_iff.mp H
                 obtain ⟨t563, A2100, H⟩ := H
                 (try dsimp only at H)
                 have A210 := Aside0.mk A2100
                 clear A2100
                 by_cases c211 : t563 = true
                 ·subst c211
                  rw [if_pos rfl] at H
                  by_cases c212 : t556 = true
                  ·subst c212
                   rw [if_pos rfl] at H
                   replace H := Option.bind_eq_some_iff.mp H
                   obtain ⟨t564, A2130, H⟩ := H
                   (try dsimp only at H)
                   have A213 := Aside0.mk A2130
                   clear A2130
                   by_cases c214 : t564 = true
                   ·subst c214
                    rw [if_pos rfl] at H
                    by_cases c215 : t560 = true
                    ·subst c215
                     rw [if_pos rfl] at H
                     replace H := Option.bind_eq_some_iff.mp H
                     obtain ⟨t565, A2160, H⟩ := H
                     (try dsimp only at H)
                     have A216 := Aside0.mk A2160
                     clear A2160
                     replace H := Option.bind_eq_some_iff.mp H
                     obtain ⟨t566, A2170, H⟩ := H
                     replace H : (if t565 = t566 then (laws_FnForestsTold.j4 k4 l1) else (some false)) = some true := H
                     have A217 := Aside0.mk A2170
                     clear A2170
                     by_cases c218 : t565 = t566
                     ·rw [if_pos c218] at H
                      have c218b0 : (t565 == t566) = true := beq_iff_eq.mpr c218
                      have c218b1 : (t565 != t566) = false := bne_eq_false_iff_eq.mpr c218
                      clear c218
                      have H' := Aside0.mk H
                      clear H
                      obtain ⟨Ao219, co219, eo219⟩ := Kd.R_slice HO_18.out
                      subst eo219
                      go_wp2_with (first | (go_at_call 12; (with_reducible refine (impl_MirrorForest.calls k4 _ _ t519 t555 true _ ?side1 ?side2 A207.out).mono ?_); (case side1 => repeat (first | exact (Kd.R_reads' HO_18.out).2.2 | (with_reducible refine qG ?_ _) | (with_reducible refine qH ?_ _) | (with_reducible refine qI ?_))); (case side2 => exact (Kd.R_reads' HO_18.out).2.1); rintro e w220 ⟨v557, rfl, ho0, hb⟩; have n0_ := Aside0.mk (Kd.R_elder' (by (with_reducible repeat (first | apply qA | apply qB | apply qC)); exact HO_5.out) (Kd.R_base ho0) hb); have n1_ := Aside0.mk (Kd.R_elder' (by (with_reducible repeat (first | apply qA | apply qB | apply qC)); exact HO_14.out) (Kd.R_base ho0) hb); have n2_ := Aside0.mk (Kd.R_elder' (by (with_reducible repeat (first | apply qA | apply qB | apply qC)); exact HO_18.out) (Kd.R_base ho0) hb); have n3_ := Aside0.mk (Kd.R_elder' (by (with_reducible repeat (first | apply qA | apply qB | apply qC)); exact HO_35.out) (Kd.R_base ho0) hb); have n4_ := Aside0.mk (Kd.R_elder' (by (with_reducible repeat (first | apply qA | apply qB | apply qC)); exact HO_245.out) (Kd.R_base ho0) hb); have n5_ := Aside0.mk (Kd.R_lower (Kd.R_new' (Kd.R_new' (Kd.R_new' (Kd.R_new' (Kd.R_new' ho0 (Kd.R_lt (by (with_reducible repeat (first | apply qA | apply qB | apply qC)); exact HO_5.out))) (Kd.R_lt (by (with_reducible repeat (first | apply qA | apply qB | apply qC)); exact HO_14.out))) (Kd.R_lt (by (with_reducible repeat (first | apply qA | apply qB | apply qC)); exact HO_18.out))) (Kd.R_lt (by (with_reducible repeat (first | apply qA | apply qB | apply qC)); exact HO_35.out))) (Kd.R_lt (by (with_reducible repeat (first | apply qA | apply qB | apply qC)); exact HO_245.out))) (below_size (by repeat (first | (with_reducible first | exact HB.out | apply qD | apply qE | apply qF) | exact HB.out)))); have n6_ := Aside0.mk (below_step (by repeat (first | (with_reducible first | exact HB.out | apply qD | apply qE | apply qF) | exact HB.out)) hb); clear HO_5; clear HO_14; clear HO_18; clear HO_35; clear HO_245; clear HB; have HO_5 := n0_; have HO_14 := n1_; have HO_18 := n2_; have HO_35 := n3_; have HO_245 := n4_; have HO558 := n5_; have HB := n6_; clear n0_ n1_ n2_ n3_ n4_ n5_ n6_; (try clear hb); (try clear hb2); (try clear hk); (try clear hi); (try clear ho0)) | (go_at_call 10; (with_reducible refine (impl_DepthsOf.calls k4 _ _ t519 t559 true _ ?side1 ?side2 A208.out).mono ?_); (case side1 => repeat (first | exact (Kd.R_reads' HO_18.out).2.2 | (with_reducible refine qG ?_ _) | (with_reducible refine qH ?_ _) | (with_reducible refine qI ?_))); (case side2 => exact (Kd.R_reads' HO_18.out).2.1); rintro e w221 ⟨v561, rfl, ho0, hb⟩; have n0_ := Aside0.mk (Kd.R_elder' (by (with_reducible repeat (first | apply qA | apply qB | apply qC)); exact HO_5.out) (Kd.R_base ho0) hb); have n1_ := Aside0.mk (Kd.R_elder' (by (with_reducible repeat (first | apply qA | apply qB | apply qC)); exact HO_14.out) (Kd.R_base ho0) hb); have n2_ := Aside0.mk (Kd.R_elder' (by (with_reducible repeat (first | apply qA | apply qB | apply qC)); exact HO_18.out) (Kd.R_base ho0) hb); have n3_ := Aside0.mk (Kd.R_elder' (by (with_reducible repeat (first | apply qA | apply qB | apply qC)); exact HO_35.out) (Kd.R_base ho0) hb); have n4_ := Aside0.mk (Kd.R_elder' (by (with_reducible repeat (first | apply qA | apply qB | apply qC)); exact HO_245.out) (Kd.R_base ho0) hb); have n5_ := Aside0.mk (Kd.R_elder' (by (with_reducible repeat (first | apply qA | apply qB | apply qC)); exact HO558.out) (Kd.R_base ho0) hb); have n6_ := Aside0.mk (Kd.R_lower (Kd.R_new' (Kd.R_new' (Kd.R_new' (Kd.R_new' (Kd.R_new' (Kd.R_new' ho0 (Kd.R_lt (by (with_reducible repeat (first | apply qA | apply qB | apply qC)); exact HO_5.out))) (Kd.R_lt (by (with_reducible repeat (first | apply qA | apply qB | apply qC)); exact HO_14.out))) (Kd.R_lt (by (with_reducible repeat (first | apply qA | apply qB | apply qC)); exact HO_18.out))) (Kd.R_lt (by (with_reducible repeat (first | apply qA | apply qB | apply qC)); exact HO_35.out))) (Kd.R_lt (by (with_reducible repeat (first | apply qA | apply qB | apply qC)); exact HO_245.out))) (Kd.R_lt (by (with_reducible repeat (first | apply qA | apply qB | apply qC)); exact HO558.out))) (below_size (by repeat (first | (with_reducible first | exact HB.out | apply qD | apply qE | apply qF) | exact HB.out)))); have n7_ := Aside0.mk (below_step (by repeat (first | (with_reducible first | exact HB.out | apply qD | apply qE | apply qF) | exact HB.out)) hb); clear HO_5; clear HO_14; clear HO_18; clear HO_35; clear HO_245; clear HO558; clear HB; have HO_5 := n0_; have HO_14 := n1_; have HO_18 := n2_; have HO_35 := n3_; have HO_245 := n4_; have HO558 := n5_; have HO562 := n6_; have HB := n7_; clear n0_ n1_ n2_ n3_ n4_ n5_ n6_ n7_; (try clear hb); (try clear hb2); (try clear hk); (try clear hi); (try clear ho0); obtain ⟨Ao222, co222, eo222⟩ := Kd.R_slice HO_35.out; subst eo222) | (go_at_call 17; (with_reducible refine (laws_xSame.calls k4 _ _ x35_4 _ _ t492 true _ ?side1 ?side2 ?side3 ?side4 A210.out).mono ?_); (case side1 => repeat (first | exact (Kd.R_reads' HO_35.out).2.2 | (with_reducible refine qG ?_ _) | (with_reducible refine qH ?_ _) | (with_reducible refine qI ?_))); (case side2 => exact (Kd.R_reads' HO_35.out).2.1); (case side3 => repeat (first | exact (Kd.R_reads' HO_5.out).2.2 | (with_reducible refine qG ?_ _) | (with_reducible refine qH ?_ _) | (with_reducible refine qI ?_))); (case side4 => exact (Kd.R_reads' HO_5.out).2.1); rintro e w' ⟨rfl, ⟨nd, rfl⟩⟩; (try first | exact ⟨rfl, _, World.drewN_drewN _ _ _⟩ | exact ⟨rfl, _, Eq.trans (World.drewN_drewN _ _ _) (congrArg (World.drewN _) (Nat.add_assoc _ _ _))⟩); obtain ⟨Ao223, co223, eo223⟩ := Kd.R_slice HO558.out; subst eo223) | (go_at_call 17; (with_reducible refine (laws_xSame.calls k4 _ _ t555 _ _ t492 true _ ?side1 ?side2 ?side3 ?side4 A213.out).mono ?_); (case side1 => repeat (first | exact (Kd.R_reads' HO558.out).2.2 | (with_reducible refine qG ?_ _) | (with_reducible refine qH ?_ _) | (with_reducible refine qI ?_))); (case side2 => exact (Kd.R_reads' HO558.out).2.1); (case side3 => repeat (first | exact (Kd.R_reads' HO_5.out).2.2 | (with_reducible refine qG ?_ _) | (with_reducible refine qH ?_ _) | (with_reducible refine qI ?_))); (case side4 => exact (Kd.R_reads' HO_5.out).2.1); rintro e w' ⟨rfl, ⟨nd, rfl⟩⟩; (try first | exact ⟨rfl, _, World.drewN_drewN _ _ _⟩ | exact ⟨rfl, _, Eq.trans (World.drewN_drewN _ _ _) (congrArg (World.drewN _) (Nat.add_assoc _ _ _))⟩); obtain ⟨Ao224, co224, eo224⟩ := Kd.R_slice HO562.out; subst eo224) | (go_at_call 19; (with_reducible refine (laws_xSum.calls k4 _ _ t559 t565 _ ?side1 ?side2 A216.out).mono ?_); (case side1 => repeat (first | exact (Kd.R_reads' HO562.out).2.2 | (with_reducible refine qG ?_ _) | (with_reducible refine qH ?_ _) | (with_reducible refine qI ?_))); (case side2 => exact (Kd.R_reads' HO562.out).2.1); rintro e w' ⟨rfl, ⟨nd, rfl⟩⟩; (try first | exact ⟨rfl, _, World.drewN_drewN _ _ _⟩ | exact ⟨rfl, _, Eq.trans (World.drewN_drewN _ _ _) (congrArg (World.drewN _) (Nat.add_assoc _ _ _))⟩); obtain ⟨Ao225, co225, eo225⟩ := Kd.R_slice HO_14.out; subst eo225) | (go_at_call 19; (with_reducible refine (laws_xSum.calls k4 _ _ t511 t566 _ ?side1 ?side2 A217.out).mono ?_); (case side1 => repeat (first | exact (Kd.R_reads' HO_14.out).2.2 | (with_reducible refine qG ?_ _) | (with_reducible refine qH ?_ _) | (with_reducible refine qI ?_))); (case side2 => exact (Kd.R_reads' HO_14.out).2.1); rintro e w' ⟨rfl, ⟨nd, rfl⟩⟩; (try first | exact ⟨rfl, _, World.drewN_drewN _ _ _⟩ | exact ⟨rfl, _, Eq.trans (World.drewN_drewN _ _ _) (congrArg (World.drewN _) (Nat.add_assoc _ _ _))⟩)))
                      repeat (go_quiet (first | (go_at_call 12; (with_reducible refine (impl_MirrorForest.calls k4 _ _ t519 t555 true _ ?side1 ?side2 A207.out).mono ?_); (case side1 => repeat (first | exact (Kd.R_reads' HO_18.out).2.2 | (with_reducible refine qG ?_ _) | (with_reducible refine qH ?_ _) | (with_reducible refine qI ?_))); (case side2 => exact (Kd.R_reads' HO_18.out).2.1); rintro e w220 ⟨v557, rfl, ho0, hb⟩; have n0_ := Aside0.mk (Kd.R_elder' (by (with_reducible repeat (first | apply qA | apply qB | apply qC)); exact HO_5.out) (Kd.R_base ho0) hb); have n1_ := Aside0.mk (Kd.R_elder' (by (with_reducible repeat (first | apply qA | apply qB | apply qC)); exact HO_14.out) (Kd.R_base ho0) hb); have n2_ := Aside0.mk (Kd.R_elder' (by (with_reducible repeat (first | apply qA | apply qB | apply qC)); exact HO_18.out) (Kd.R_base ho0) hb); have n3_ := Aside0.mk (Kd.R_elder' (by (with_reducible repeat (first | apply qA | apply qB | apply qC)); exact HO_35.out) (Kd.R_base ho0) hb); have n4_ := Aside0.mk (Kd.R_elder' (by (with_reducible repeat (first | apply qA | apply qB | apply qC)); exact HO_245.out) (Kd.R_base ho0) hb); have n5_ := Aside0.mk (Kd.R_lower (Kd.R_new' (Kd.R_new' (Kd.R_new' (Kd.R_new' (Kd.R_new' ho0 (Kd.R_lt (by (with_reducible repeat (first | apply qA | apply qB | apply qC)); exact HO_5.out))) (Kd.R_lt (by (with_reducible repeat (first | apply qA | apply qB | apply qC)); exact HO_14.out))) (Kd.R_lt (by (with_reducible repeat (first | apply qA | apply qB | apply qC)); exact HO_18.out))) (Kd.R_lt (by (with_reducible repeat (first | apply qA | apply qB | apply qC)); exact HO_35.out))) (Kd.R_lt (by (with_reducible repeat (first | apply qA | apply qB | apply qC)); exact HO_245.out))) (below_size (by repeat (first | (with_reducible first | exact HB.out | apply qD | apply qE | apply qF) | exact HB.out)))); have n6_ := Aside0.mk (below_step (by repeat (first | (with_reducible first | exact HB.out | apply qD | apply qE | apply qF) | exact HB.out)) hb); clear HO_5; clear HO_14; clear HO_18; clear HO_35; clear HO_245; clear HB; have HO_5 := n0_; have HO_14 := n1_; have HO_18 := n2_; have HO_35 := n3_; have HO_245 := n4_; have HO558 := n5_; have HB := n6_; clear n0_ n1_ n2_ n3_ n4_ n5_ n6_; (try clear hb); (try clear hb2); (try clear hk); (try clear hi); (try clear ho0)) | (go_at_call 10; (with_reducible refine (impl_DepthsOf.calls k4 _ _ t519 t559 true _ ?side1 ?side2 A208.out).mono ?_); (case side1 => repeat (first | exact (Kd.R_reads' HO_18.out).2.2 | (with_reducible refine qG ?_ _) | (with_reducible refine qH ?_ _) | (with_reducible refine qI ?_))); (case side2 => exact (Kd.R_reads' HO_18.out).2.1); rintro e w221 ⟨v561, rfl, ho0, hb⟩; have n0_ := Aside0.mk (Kd.R_elder' (by (with_reducible repeat (first | apply qA | apply qB | apply qC)); exact HO_5.out) (Kd.R_base ho0) hb); have n1_ := Aside0.mk (Kd.R_elder' (by (with_reducible repeat (first | apply qA | apply qB | apply qC)); exact HO_14.out) (Kd.R_base ho0) hb); have n2_ := Aside0.mk (Kd.R_elder' (by (with_reducible repeat (first | apply qA | apply qB | apply qC)); exact HO_18.out) (Kd.R_base ho0) hb); have n3_ := Aside0.mk (Kd.R_elder' (by (with_reducible repeat (first | apply qA | apply qB | apply qC)); exact HO_35.out) (Kd.R_base ho0) hb); have n4_ := Aside0.mk (Kd.R_elder' (by (with_reducible repeat (first | apply qA | apply qB | apply qC)); exact HO_245.out) (Kd.R_base ho0) hb); have n5_ := Aside0.mk (Kd.R_elder' (by (with_reducible repeat (first | apply qA | apply qB | apply qC)); exact HO558.out) (Kd.R_base ho0) hb); have n6_ := Aside0.mk (Kd.R_lower (Kd.R_new' (Kd.R_new' (Kd.R_new' (Kd.R_new' (Kd.R_new' (Kd.R_new' ho0 (Kd.R_lt (by (with_reducible repeat (first | apply qA | apply qB | apply qC)); exact HO_5.out))) (Kd.R_lt (by (with_reducible repeat (first | apply qA | apply qB | apply qC)); exact HO_14.out))) (Kd.R_lt (by (with_reducible repeat (first | apply qA | apply qB | apply qC)); exact HO_18.out))) (Kd.R_lt (by (with_reducible repeat (first | apply qA | apply qB | apply qC)); exact HO_35.out))) (Kd.R_lt (by (with_reducible repeat (first | apply qA | apply qB | apply qC)); exact HO_245.out))) (Kd.R_lt (by (with_reducible repeat (first | apply qA | apply qB | apply qC)); exact HO558.out))) (below_size (by repeat (first | (with_reducible first | exact HB.out | apply qD | apply qE | apply qF) | exact HB.out)))); have n7_ := Aside0.mk (below_step (by repeat (first | (with_reducible first | exact HB.out | apply qD | apply qE | apply qF) | exact HB.out)) hb); clear HO_5; clear HO_14; clear HO_18; clear HO_35; clear HO_245; clear HO558; clear HB; have HO_5 := n0_; have HO_14 := n1_; have HO_18 := n2_; have HO_35 := n3_; have HO_245 := n4_; have HO558 := n5_; have HO562 := n6_; have HB := n7_; clear n0_ n1_ n2_ n3_ n4_ n5_ n6_ n7_; (try clear hb); (try clear hb2); (try clear hk); (try clear hi); (try clear ho0); obtain ⟨Ao222, co222, eo222⟩ := Kd.R_slice HO_35.out; subst eo222) | (go_at_call 17; (with_reducible refine (laws_xSame.calls k4 _ _ x35_4 _ _ t492 true _ ?side1 ?side2 ?side3 ?side4 A210.out).mono ?_); (case side1 => repeat (first | exact (Kd.R_reads' HO_35.out).2.2 | (with_reducible refine qG ?_ _) | (with_reducible refine qH ?_ _) | (with_reducible refine qI ?_))); (case side2 => exact (Kd.R_reads' HO_35.out).2.1); (case side3 => repeat (first | exact (Kd.R_reads' HO_5.out).2.2 | (with_reducible refine qG ?_ _) | (with_reducible refine qH ?_ _) | (with_reducible refine qI ?_))); (case side4 => exact (Kd.R_reads' HO_5.out).2.1); rintro e w' ⟨rfl, ⟨nd, rfl⟩⟩; (try first | exact ⟨rfl, _, World.drewN_drewN _ _ _⟩ | exact ⟨rfl, _, Eq.trans (World.drewN_drewN _ _ _) (congrArg (World.drewN _) (Nat.add_assoc _ _ _))⟩); obtain ⟨Ao223, co223, eo223⟩ := Kd.R_slice HO558.out; subst eo223) | (go_at_call 17; (with_reducible refine (laws_xSame.calls k4 _ _ t555 _ _ t492 true _ ?side1 ?side2 ?side3 ?side4 A213.out).mono ?_); (case side1 => repeat (first | exact (Kd.R_reads' HO558.out).2.2 | (with_reducible refine qG ?_ _) | (with_reducible refine qH ?_ _) | (with_reducible refine qI ?_))); (case side2 => exact (Kd.R_reads' HO558.out).2.1); (case side3 => repeat (first | exact (Kd.R_reads' HO_5.out).2.2 | (with_reducible refine qG ?_ _) | (with_reducible refine qH ?_ _) | (with_reducible refine qI ?_))); (case side4 => exact (Kd.R_reads' HO_5.out).2.1); rintro e w' ⟨rfl, ⟨nd, rfl⟩⟩; (try first | exact ⟨rfl, _, World.drewN_drewN _ _ _⟩ | exact ⟨rfl, _, Eq.trans (World.drewN_drewN _ _ _) (congrArg (World.drewN _) (Nat.add_assoc _ _ _))⟩); obtain ⟨Ao224, co224, eo224⟩ := Kd.R_slice HO562.out; subst eo224) | (go_at_call 19; (with_reducible refine (laws_xSum.calls k4 _ _ t559 t565 _ ?side1 ?side2 A216.out).mono ?_); (case side1 => repeat (first | exact (Kd.R_reads' HO562.out).2.2 | (with_reducible refine qG ?_ _) | (with_reducible refine qH ?_ _) | (with_reducible refine qI ?_))); (case side2 => exact (Kd.R_reads' HO562.out).2.1); rintro e w' ⟨rfl, ⟨nd, rfl⟩⟩; (try first | exact ⟨rfl, _, World.drewN_drewN _ _ _⟩ | exact ⟨rfl, _, Eq.trans (World.drewN_drewN _ _ _) (congrArg (World.drewN _) (Nat.add_assoc _ _ _))⟩); obtain ⟨Ao225, co225, eo225⟩ := Kd.R_slice HO_14.out; subst eo225) | (go_at_call 19; (with_reducible refine (laws_xSum.calls k4 _ _ t511 t566 _ ?side1 ?side2 A217.out).mono ?_); (case side1 => repeat (first | exact (Kd.R_reads' HO_14.out).2.2 | (with_reducible refine qG ?_ _) | (with_reducible refine qH ?_ _) | (with_reducible refine qI ?_))); (case side2 => exact (Kd.R_reads' HO_14.out).2.1); rintro e w' ⟨rfl, ⟨nd, rfl⟩⟩; (try first | exact ⟨rfl, _, World.drewN_drewN _ _ _⟩ | exact ⟨rfl, _, Eq.trans (World.drewN_drewN _ _ _) (congrArg (World.drewN _) (Nat.add_assoc _ _ _))⟩))); try go_wp2_with (first | (go_at_call 12; (with_reducible refine (impl_MirrorForest.calls k4 _ _ t519 t555 true _ ?side1 ?side2 A207.out).mono ?_); (case side1 => repeat (first | exact (Kd.R_reads' HO_18.out).2.2 | (with_reducible refine qG ?_ _) | (with_reducible refine qH ?_ _) | (with_reducible refine qI ?_))); (case side2 => exact (Kd.R_reads' HO_18.out).2.1); rintro e w220 ⟨v557, rfl, ho0, hb⟩; have n0_ := Aside0.mk (Kd.R_elder' (by (with_reducible repeat (first | apply qA | apply qB | apply qC)); exact HO_5.out) (Kd.R_base ho0) hb); have n1_ := Aside0.mk (Kd.R_elder' (by (with_reducible repeat (first | apply qA | apply qB | apply qC)); exact HO_14.out) (Kd.R_base ho0) hb); have n2_ := Aside0.mk (Kd.R_elder' (by (with_reducible repeat (first | apply qA | apply qB | apply qC)); exact HO_18.out) (Kd.R_base ho0) hb); have n3_ := Aside0.mk (Kd.R_elder' (by (with_reducible repeat (first | apply qA | apply qB | apply qC)); exact HO_35.out) (Kd.R_base ho0) hb); have n4_ := Aside0.mk (Kd.R_elder' (by (with_reducible repeat (first | apply qA | apply qB | apply qC)); exact HO_245.out) (Kd.R_base ho0) hb); have n5_ := Aside0.mk (Kd.R_lower (Kd.R_new' (Kd.R_new' (Kd.R_new' (Kd.R_new' (Kd.R_new' ho0 (Kd.R_lt (by (with_reducible repeat (first | apply qA | apply qB | apply qC)); exact HO_5.out))) (Kd.R_lt (by (with_reducible repeat (first | apply qA | apply qB | apply qC)); exact HO_14.out))) (Kd.R_lt (by (with_reducible repeat (first | apply qA | apply qB | apply qC)); exact HO_18.out))) (Kd.R_lt (by (with_reducible repeat (first | apply qA | apply qB | apply qC)); exact HO_35.out))) (Kd.R_lt (by (with_reducible repeat (first | apply qA | apply qB | apply qC)); exact HO_245.out))) (below_size (by repeat (first | (with_reducible first | exact HB.out | apply qD | apply qE | apply qF) | exact HB.out)))); have n6_ := Aside0.mk (below_step (by repeat (first | (with_reducible first | exact HB.out | apply qD | apply qE | apply qF) | exact HB.out)) hb); clear HO_5; clear HO_14; clear HO_18; clear HO_35; clear HO_245; clear HB; have HO_5 := n0_; have HO_14 := n1_; have HO_18 := n2_; have HO_35 := n3_; have HO_245 := n4_; have HO558 := n5_; have HB := n6_; clear n0_ n1_ n2_ n3_ n4_ n5_ n6_; (try clear hb); (try clear hb2); (try clear hk); (try clear hi); (try clear ho0)) | (go_at_call 10; (with_reducible refine (impl_DepthsOf.calls k4 _ _ t519 t559 true _ ?side1 ?side2 A208.out).mono ?_); (case side1 => repeat (first | exact (Kd.R_reads' HO_18.out).2.2 | (with_reducible refine qG ?_ _) | (with_reducible refine qH ?_ _) | (with_reducible refine qI ?_))); (case side2 => exact (Kd.R_reads' HO_18.out).2.1); rintro e w221 ⟨v561, rfl, ho0, hb⟩; have n0_ := Aside0.mk (Kd.R_elder' (by (with_reducible repeat (first | apply qA | apply qB | apply qC)); exact HO_5.out) (Kd.R_base ho0) hb); have n1_ := Aside0.mk (Kd.R_elder' (by (with_reducible repeat (first | apply qA | apply qB | apply qC)); exact HO_14.out) (Kd.R_base ho0) hb); have n2_ := Aside0.mk (Kd.R_elder' (by (with_reducible repeat (first | apply qA | apply qB | apply qC)); exact HO_18.out) (Kd.R_base ho0) hb); have n3_ := Aside0.mk (Kd.R_elder' (by (with_reducible repeat (first | apply qA | apply qB | apply qC)); exact HO_35.out) (Kd.R_base ho0) hb); have n4_ := Aside0.mk (Kd.R_elder' (by (with_reducible repeat (first | apply qA | apply qB | apply qC)); exact HO_245.out) (Kd.R_base ho0) hb); have n5_ := Aside0.mk (Kd.R_elder' (by (with_reducible repeat (first | apply qA | apply qB | apply qC)); exact HO558.out) (Kd.R_base ho0) hb); have n6_ := Aside0.mk (Kd.R_lower (Kd.R_new' (Kd.R_new' (Kd.R_new' (Kd.R_new' (Kd.R_new' (Kd.R_new' ho0 (Kd.R_lt (by (with_reducible repeat (first | apply qA | apply qB | apply qC)); exact HO_5.out))) (Kd.R_lt (by (with_reducible repeat (first | apply qA | apply qB | apply qC)); exact HO_14.out))) (Kd.R_lt (by (with_reducible repeat (first | apply qA | apply qB | apply qC)); exact HO_18.out))) (Kd.R_lt (by (with_reducible repeat (first | apply qA | apply qB | apply qC)); exact HO_35.out))) (Kd.R_lt (by (with_reducible repeat (first | apply qA | apply qB | apply qC)); exact HO_245.out))) (Kd.R_lt (by (with_reducible repeat (first | apply qA | apply qB | apply qC)); exact HO558.out))) (below_size (by repeat (first | (with_reducible first | exact HB.out | apply qD | apply qE | apply qF) | exact HB.out)))); have n7_ := Aside0.mk (below_step (by repeat (first | (with_reducible first | exact HB.out | apply qD | apply qE | apply qF) | exact HB.out)) hb); clear HO_5; clear HO_14; clear HO_18; clear HO_35; clear HO_245; clear HO558; clear HB; have HO_5 := n0_; have HO_14 := n1_; have HO_18 := n2_; have HO_35 := n3_; have HO_245 := n4_; have HO558 := n5_; have HO562 := n6_; have HB := n7_; clear n0_ n1_ n2_ n3_ n4_ n5_ n6_ n7_; (try clear hb); (try clear hb2); (try clear hk); (try clear hi); (try clear ho0); obtain ⟨Ao222, co222, eo222⟩ := Kd.R_slice HO_35.out; subst eo222) | (go_at_call 17; (with_reducible refine (laws_xSame.calls k4 _ _ x35_4 _ _ t492 true _ ?side1 ?side2 ?side3 ?side4 A210.out).mono ?_); (case side1 => repeat (first | exact (Kd.R_reads' HO_35.out).2.2 | (with_reducible refine qG ?_ _) | (with_reducible refine qH ?_ _) | (with_reducible refine qI ?_))); (case side2 => exact (Kd.R_reads' HO_35.out).2.1); (case side3 => repeat (first | exact (Kd.R_reads' HO_5.out).2.2 | (with_reducible refine qG ?_ _) | (with_reducible refine qH ?_ _) | (with_reducible refine qI ?_))); (case side4 => exact (Kd.R_reads' HO_5.out).2.1); rintro e w' ⟨rfl, ⟨nd, rfl⟩⟩; (try first | exact ⟨rfl, _, World.drewN_drewN _ _ _⟩ | exact ⟨rfl, _, Eq.trans (World.drewN_drewN _ _ _) (congrArg (World.drewN _) (Nat.add_assoc _ _ _))⟩); obtain ⟨Ao223, co223, eo223⟩ := Kd.R_slice HO558.out; subst eo223) | (go_at_call 17; (with_reducible refine (laws_xSame.calls k4 _ _ t555 _ _ t492 true _ ?side1 ?side2 ?side3 ?side4 A213.out).mono ?_); (case side1 => repeat (first | exact (Kd.R_reads' HO558.out).2.2 | (with_reducible refine qG ?_ _) | (with_reducible refine qH ?_ _) | (with_reducible refine qI ?_))); (case side2 => exact (Kd.R_reads' HO558.out).2.1); (case side3 => repeat (first | exact (Kd.R_reads' HO_5.out).2.2 | (with_reducible refine qG ?_ _) | (with_reducible refine qH ?_ _) | (with_reducible refine qI ?_))); (case side4 => exact (Kd.R_reads' HO_5.out).2.1); rintro e w' ⟨rfl, ⟨nd, rfl⟩⟩; (try first | exact ⟨rfl, _, World.drewN_drewN _ _ _⟩ | exact ⟨rfl, _, Eq.trans (World.drewN_drewN _ _ _) (congrArg (World.drewN _) (Nat.add_assoc _ _ _))⟩); obtain ⟨Ao224, co224, eo224⟩ := Kd.R_slice HO562.out; subst eo224) | (go_at_call 19; (with_reducible refine (laws_xSum.calls k4 _ _ t559 t565 _ ?side1 ?side2 A216.out).mono ?_); (case side1 => repeat (first | exact (Kd.R_reads' HO562.out).2.2 | (with_reducible refine qG ?_ _) | (with_reducible refine qH ?_ _) | (with_reducible refine qI ?_))); (case side2 => exact (Kd.R_reads' HO562.out).2.1); rintro e w' ⟨rfl, ⟨nd, rfl⟩⟩; (try first | exact ⟨rfl, _, World.drewN_drewN _ _ _⟩ | exact ⟨rfl, _, Eq.trans (World.drewN_drewN _ _ _) (congrArg (World.drewN _) (Nat.add_assoc _ _ _))⟩); obtain ⟨Ao225, co225, eo225⟩ := Kd.R_slice HO_14.out; subst eo225) | (go_at_call 19; (with_reducible refine (laws_xSum.calls k4 _ _ t511 t566 _ ?side1 ?side2 A217.out).mono ?_); (case side1 => repeat (first | exact (Kd.R_reads' HO_14.out).2.2 | (with_reducible refine qG ?_ _) | (with_reducible refine qH ?_ _) | (with_reducible refine qI ?_))); (case side2 => exact (Kd.R_reads' HO_14.out).2.1); rintro e w' ⟨rfl, ⟨nd, rfl⟩⟩; (try first | exact ⟨rfl, _, World.drewN_drewN _ _ _⟩ | exact ⟨rfl, _, Eq.trans (World.drewN_drewN _ _ _) (congrArg (World.drewN _) (Nat.add_assoc _ _ _))⟩))))
                      go_meet
                      case rel => exact ⟨_, H', ⟨by have := HJ15.out; have := HK2.out; have := HJ175.out; have := HK4.out; first | omega | exact Nat.le_refl _⟩, ⟨by repeat (first | (with_reducible first | exact HB.out | apply qD | apply qE | apply qF) | exact HB.out)⟩⟩
                     ·rw [if_neg c218] at H
                      have c218b0 : (t565 == t566) = false := beq_eq_false_iff_ne.mpr c218
                      have c218b1 : (t565 != t566) = true := bne_iff_ne.mpr c218
                      (first | exact absurd H (by simp; done) | exact absurd H laws_FnForestsTold.j0_no | exact absurd H laws_FnForestsTold.j5_no | exact absurd H laws_FnForestsTold.j6_no | exact absurd H laws_FnForestsTold.j2_no)
                    ·replace c215 := Bool.eq_false_iff.mpr c215
                     subst c215
                     have H1 : (some false) = some true := by rw [if_neg (show ¬ (false = true) by decide)] at H; exact H
                     clear H
                     have H := H1
                     clear H1
                     (first | exact absurd H (by simp; done) | exact absurd H laws_FnForestsTold.j0_no | exact absurd H laws_FnForestsTold.j5_no | exact absurd H laws_FnForestsTold.j6_no | exact absurd H laws_FnForestsTold.j2_no)
                   ·replace c214 := Bool.eq_false_iff.mpr c214
                    subst c214
                    have H1 : (some false) = some true := by rw [if_neg (show ¬ (false = true) by decide)] at H; exact H
                    clear H
                    have H := H1
                    clear H1
                    (first | exact absurd H (by simp; done) | exact absurd H laws_FnForestsTold.j0_no | exact absurd H laws_FnForestsTold.j5_no | exact absurd H laws_FnForestsTold.j6_no | exact absurd H laws_FnForestsTold.j2_no)
                  ·replace c212 := Bool.eq_false_iff.mpr c212
                   subst c212
                   have H1 : (some false) = some true := by rw [if_neg (show ¬ (false = true) by decide)] at H; exact H
                   clear H
                   have H := H1
                   clear H1
                   (first | exact absurd H (by simp; done) | exact absurd H laws_FnForestsTold.j0_no | exact absurd H laws_FnForestsTold.j5_no | exact absurd H laws_FnForestsTold.j6_no | exact absurd H laws_FnForestsTold.j2_no)
                 ·replace c211 := Bool.eq_false_iff.mpr c211
                  subst c211
                  have H1 : (some false) = some true := by rw [if_neg (show ¬ (false = true) by decide)] at H; exact H
                  clear H
                  have H := H1
                  clear H1
                  (first | exact absurd H (by simp; done) | exact absurd H laws_FnForestsTold.j0_no | exact absurd H laws_FnForestsTold.j5_no | exact absurd H laws_FnForestsTold.j6_no | exact absurd H laws_FnForestsTold.j2_no)
                ·rw [if_neg c209] at H
                 have c209b0 : (x36_4 == t535) = false := beq_eq_false_iff_ne.mpr c209
                 have c209b1 : (x36_4 != t535) = true := bne_iff_ne.mpr c209
                 (first | exact absurd H (by simp; done) | exact absurd H laws_FnForestsTold.j0_no | exact absurd H laws_FnForestsTold.j5_no | exact absurd H laws_FnForestsTold.j6_no | exact absurd H laws_FnForestsTold.j2_no)
            ·rw [if_neg c183] at H
             exact absurd H (by simp)
           ·rw [if_neg c182] at H
            exact absurd H (by simp)
    ·replace c162 := Bool.eq_false_iff.mpr c162
     subst c162
     have H1 : (laws_FnForestsTold.j4 kj15 l1) = some true := by rw [if_neg (show ¬ (false = true) by decide)] at H; exact H
     clear H
     have H := H1
     clear H1
     have H' := Aside0.mk H
     clear H
     go_wp2
     repeat (go_quiet (fail); try go_wp2)
     go_meet
     case rel => exact ⟨_, H', ⟨by have := HJ15.out; first | omega | exact Nat.le_refl _⟩, ⟨by repeat (first | (with_reducible first | exact HB.out | apply qD | apply qE | apply qF) | exact HB.out)⟩⟩
   case rest =>
    refine (‹∀ (a : Act) (w : World), Code.wp Try.prog _ _ a w → _›) _ _ ?_
    exact law_path k A0 c0 l0 A1 c1 l1 w wc HR0 HC0 HR1 HC1 ⟨Nat.zero_le _⟩ kj15 hcut _ _ _ _ _ _ _ _ _ _ _ _ _ _ _ _ _ _ _ _ _ _ _ _ _ _ _ _ _ _ _ _ _ _ _ _ _ _ _ _ _ _ _ _ _ _ _ _ _ _ _ _ _ _ _ _ _ _ _ _ _ _ _ _ _ _ _ _ _ _ _ _ _ _ _ _ _ _ _ _ _ _ _ _ _ _ _ _ _ _ _ _ _ _ _ _ _ _ _ _ _ _ _ _ _ _ _ _ _ _ _ _ _ _ _ _ _ _ _ _ _ _ _ _ _ _ _ _ _ _ _ _ _ _ _ _ _ _ _ _ _ _ _ _ _ _ _ _ _ _ _ _ _ _ _ _ _ _ _ _ _ _ _ _ _ _ _ _ _ _ _ _ _ _ _ _ _ _ _ _ _ _ _ _ _ _ _ _ _ _ _ _ _ _ _ _ _ _ _ _ _ _ _ _ _ _ _ _ _ _ _ _ _ _ _ _ _ _ _ _ _ _ _ _ _ _ _ _ _ _ _ _ _ _ _ _ _ _ _ _ _ _ _ _ _ _ _ _ _ _ _ _ _ _ _ _ _ _ _ _ _ _ _ _ _ _ _ _ _ _ _ _ _ _ _ _ _ _ _ _ _ _ _ _ _ _ _ _ _ _ _ _ _ _ _ _ _ _ _ _ _ _ _ _ _ _ _ _ _ _ _ _ _ _ _ _ _ _ _ _ _ _ _ _ _ _ _ _ _ _ _ _ _ _ _ _ _ _ _ _ _ _ _ _ _ _ _ _ _ _ _ _ _ _ _ _ _ _ _ _ _ _ _ _ _ _ _ _ _ _ _ _ _ _ _ _ _ _ _ _ _ _ _ _ _ _ _ _ _ _ _ _ _ _ _ _ _ _ _ _ _ _ _ _ _ _ _ _ _ _ _ _
end Go.Proofs.Ytjjkglfpcdedlaa.QFnForestsTold
