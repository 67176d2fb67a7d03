/- Plain parts of the law FnGoodPathsSorted: values told by the kernel. -/
import Derived.Test.YtjjkglfpcdedlabDoorQFnGoodPathsSortedx15
namespace Go.Proofs.YtjjkglfpcdedlabDoor.QFnGoodPathsSorted
open Go.RowKit Go.Proofs.YtjjkglfpcdedlabDoorW.PrintWords Go.Proofs.YtjjkglfpcdedlabDoorW.PrintLast Go.Proofs.YtjjkglfpcdedlabDoorPl
set_option linter.unusedVariables false

/-! ### The law's last rounds: paths between walls -/
theorem steps_n (n : Nat) (hn : n ≤ 15) : impl_areSteps.f (n : Int) (n : Int) = some true := by
  have e : wrap64 ((n : Int) + (n : Int)) = (n : Int) + (n : Int) := w64 (by omega) (by omega)
  unfold impl_areSteps.f
  rw [in_some, decide_eq_true ⟨Int.natCast_nonneg n, by omega⟩]
  simp only [Option.bind_some, if_true]
  rw [e, decide_eq_true (by omega)]
theorem walls_i (i : Nat) (hi : i ≤ 15) : impl_areWalls.f 0 (i : Int) = some true := by
  unfold impl_areWalls.f
  rw [in_some, in_some, decide_eq_true (by decide), decide_eq_true ⟨Int.natCast_nonneg i, by omega⟩]
  rfl
theorem between_n (n i : Nat) (hn : n ≤ 15) (hi : i ≤ 15) (k : Nat) : impl_CountBetween.f k (n : Int) (n : Int) 0 (i : Int) = some (dpVal n i, true) := by
  unfold impl_CountBetween.f
  rw [steps_n n hn]
  simp only [Option.bind_some, if_true]
  rw [walls_i i hi]
  simp only [Option.bind_some, if_true]
  rw [dpVal_eq n i hn]
  rfl
theorem r_mir {n i : Nat} (hn : n ≤ 15) (hi : i ≤ n) : wrap64 (wrap64 ((n : Int) + 1) - (i : Int)) = ((n + 1 - i : Nat) : Int) := by
  rw [w64 (x := (n : Int) + 1) (by omega) (by omega), w64 (by omega) (by omega)]; omega
theorem r_le {i d n : Nat} (h : i + (d + 1) = n + 1) : (i : Int) ≤ (n : Int) := by omega
theorem r_nle {i n : Nat} (h : i + 0 = n + 1) : ¬ (i : Int) ≤ (n : Int) := by omega
theorem r_cast {a b : Nat} (h : a < b) : (a : Int) < (b : Int) := by omega
theorem r_castle {a b : Nat} (h : a ≤ b) : (a : Int) ≤ (b : Int) := by omega
structure Rnds (n : Nat) (P H : List Int) : Prop where
  lP : P.length = n + 1
  lH : H.length = n + 1
  mir : ∀ i : Nat, i ≤ n → 1 ≤ i → rd P (i : Int) = rd P ((n + 1 - i : Nat) : Int)
  sum : ∀ i : Nat, i ≤ n → 1 ≤ i → laws_ySum.f 100 (H.take (i + 1)) = some (dpVal n i)
theorem l2_run (x1 : List Int) (n : Nat) (hn : n ≤ 15) (P H : List Int) (R : Rnds n P H) (h6 : Ev (fun k => laws_FnGoodPathsSorted.j6 k x1) true) (d : Nat) : ∀ i : Nat, i + d = n + 1 → 1 ≤ i → Ev (fun k => laws_FnGoodPathsSorted.l2 k x1 (n : Int) P H (i : Int)) true := by
  induction d with
  | zero =>
    intro i hi h1
    obtain ⟨k0, h6⟩ := h6
    refine ⟨k0 + 1, fun k hk => ?_⟩
    show laws_FnGoodPathsSorted.l2 k x1 (n : Int) P H (i : Int) = some true
    obtain ⟨k, rfl⟩ : ∃ m, k = m + 1 := ⟨k - 1, by omega⟩
    rw [laws_FnGoodPathsSorted.l2, if_neg (r_nle hi)]
    exact h6 k (by omega)
  | succ d ih =>
    intro i hi h1
    obtain ⟨k0, hk0⟩ := ih (i + 1) (by omega) (by omega)
    refine ⟨k0 + 200, fun k hk => ?_⟩
    show laws_FnGoodPathsSorted.l2 k x1 (n : Int) P H (i : Int) = some true
    obtain ⟨k, rfl⟩ : ∃ m, k = m + 1 := ⟨k - 1, by omega⟩
    have hin : i ≤ n := by omega
    have c1 : (i : Int) < (P.length : Int) := by rw [R.lP]; exact r_cast (by omega)
    have c2 : ((n + 1 - i : Nat) : Int) < (P.length : Int) := by rw [R.lP]; exact r_cast (by omega)
    have c3 : ((i + 1 : Nat) : Int) ≤ (H.length : Int) := by rw [R.lH]; exact r_castle (by omega)
    have hs : laws_ySum.f k (H.take (i + 1)) = some (dpVal n i) := up' (fun k => laws_ySum.f k (H.take (i + 1))) (fun k => laws_ySum.mono _ k) (R.sum i hin h1) k (by omega)
    rw [laws_FnGoodPathsSorted.l2, if_pos (r_le hi), if_pos (Int.natCast_nonneg i), if_pos c1, r_mir hn hin, if_pos (Int.natCast_nonneg _), if_pos c2, if_pos (R.mir i hin h1), between_n n i hn (by omega) k, Option.bind_some, if_pos rfl, r_suc i (by omega), if_pos (Int.natCast_nonneg _), if_pos c3, Int.toNat_natCast, hs, Option.bind_some, if_pos rfl]
    exact hk0 k (by omega)

/-! ### The rows of n in 0..15 -/
def tP : List (List Int) := [[1], [0, 1], [0, 1, 1], [0, 1, 3, 1], [0, 1, 6, 6, 1], [0, 1, 10, 20, 10, 1], [0, 1, 15, 50, 50, 15, 1], [0, 1, 21, 105, 175, 105, 21, 1], [0, 1, 28, 196, 490, 490, 196, 28, 1], [0, 1, 36, 336, 1176, 1764, 1176, 336, 36, 1], [0, 1, 45, 540, 2520, 5292, 5292, 2520, 540, 45, 1], [0, 1, 55, 825, 4950, 13860, 19404, 13860, 4950, 825, 55, 1], [0, 1, 66, 1210, 9075, 32670, 60984, 60984, 32670, 9075, 1210, 66, 1], [0, 1, 78, 1716, 15730, 70785, 169884, 226512, 169884, 70785, 15730, 1716, 78, 1], [0, 1, 91, 2366, 26026, 143143, 429429, 736164, 736164, 429429, 143143, 26026, 2366, 91, 1], [0, 1, 105, 3185, 41405, 273273, 1002001, 2147145, 2760615, 2147145, 1002001, 273273, 41405, 3185, 105, 1]]
def vP (n : Nat) : List Int := tP.getD n []
def tH : List (List Int) := [[1], [0, 1], [0, 1, 1], [0, 1, 3, 1], [0, 1, 7, 5, 1], [0, 1, 15, 18, 7, 1], [0, 1, 31, 57, 33, 9, 1], [0, 1, 63, 169, 132, 52, 11, 1], [0, 1, 127, 482, 484, 247, 75, 13, 1], [0, 1, 255, 1341, 1684, 1053, 410, 102, 15, 1], [0, 1, 511, 3669, 5661, 4199, 1975, 629, 133, 17, 1], [0, 1, 1023, 9922, 18579, 16017, 8778, 3366, 912, 168, 19, 1], [0, 1, 2047, 26609, 59917, 59224, 36938, 16422, 5358, 1267, 207, 21, 1], [0, 1, 4095, 70929, 190696, 214058, 149501, 75140, 28405, 8099, 1702, 250, 23, 1], [0, 1, 8191, 188226, 600744, 760487, 587951, 328185, 140049, 46305, 11753, 2225, 297, 25, 1], [0, 1, 16383, 497845, 1877256, 2665884, 2262375, 1384345, 654588, 244412, 72036, 16500, 2844, 348, 27, 1]]
def vH (n : Nat) : List Int := tH.getD n []
def tT : List (List Int) := [[1], [0, 1], [0, 1, 1], [0, 2, 2, 1], [0, 5, 5, 3, 1], [0, 14, 14, 9, 4, 1], [0, 42, 42, 28, 14, 5, 1], [0, 132, 132, 90, 48, 20, 6, 1], [0, 429, 429, 297, 165, 75, 27, 7, 1], [0, 1430, 1430, 1001, 572, 275, 110, 35, 8, 1], [0, 4862, 4862, 3432, 2002, 1001, 429, 154, 44, 9, 1], [0, 16796, 16796, 11934, 7072, 3640, 1638, 637, 208, 54, 10, 1], [0, 58786, 58786, 41990, 25194, 13260, 6188, 2548, 910, 273, 65, 11, 1], [0, 208012, 208012, 149226, 90440, 48450, 23256, 9996, 3808, 1260, 350, 77, 12, 1], [0, 742900, 742900, 534888, 326876, 177650, 87210, 38760, 15504, 5508, 1700, 440, 90, 13, 1], [0, 2674440, 2674440, 1931540, 1188640, 653752, 326876, 149226, 62016, 23256, 7752, 2244, 544, 104, 14, 1]]
def vT (n : Nat) : List Int := tT.getD n []
def tC : List Int := [1, 1, 2, 5, 14, 42, 132, 429, 1430, 4862, 16796, 58786, 208012, 742900, 2674440, 9694845]
def vC (n : Nat) : Int := tC.getD n 0
def tS : List Int := [0, 1, 6, 29, 130, 562, 2380, 9949, 41226, 169766, 695860, 2842226, 11576916, 47050564, 190876696, 773201629]
def vS (n : Nat) : Int := tS.getD n 0
def tO : List Int := [0, 1, 3, 10, 34, 118, 417, 1495, 5421, 19838, 73149, 271453, 1012872, 3797228, 14294518, 54006728]
def vO (n : Nat) : Int := tO.getD n 0
def tcp : List Int := [1, 3, 10, 35, 126, 462, 1716, 6435, 24310, 92378, 352716, 1352078, 5200300, 20058300, 77558760, 300540195]
def vcp (n : Nat) : Int := tcp.getD n 0
def tp4 : List Int := [1, 4, 16, 64, 256, 1024, 4096, 16384, 65536, 262144, 1048576, 4194304, 16777216, 67108864, 268435456, 1073741824]
def vp4 (n : Nat) : Int := tp4.getD n 0
theorem val_P : ∀ n : Nat, n < 16 → (impl_CountByPeaks.f 20000 (n : Int) = some (vP n, true)) := by decide +kernel
theorem val_P2 : ∀ n : Nat, n < 16 → (spec_CountByPeaks.f 20000 (n : Int) = some (vP n, true)) := by decide +kernel
theorem val_H : ∀ n : Nat, n < 16 → (spec_CountByHeight.f 20000 (n : Int) = some (vH n, true)) := by decide +kernel
theorem val_T : ∀ n : Nat, n < 16 → (impl_CountByReturns.f 20000 (n : Int) = some (vT n, true)) := by decide +kernel
theorem val_T2 : ∀ n : Nat, n < 16 → (spec_CountByReturns.f 20000 (n : Int) = some (vT n, true)) := by decide +kernel
theorem val_N : ∀ n : Nat, n < 16 → (spec_CountByFirstRun.f 20000 (n : Int) = some (vT n, true)) := by decide +kernel
theorem val_C : ∀ n : Nat, n < 16 → (impl_CountGoodClosed.f 20000 (n : Int) = some (vC n, true)) := by decide +kernel
theorem val_C2 : ∀ n : Nat, n < 16 → (spec_CountGoodClosed.f 20000 (n : Int) = some (vC n, true)) := by decide +kernel
theorem val_S : ∀ n : Nat, n < 16 → (impl_SumOfAreas.f 300 (n : Int) = some (vS n, true)) := by decide +kernel
theorem val_O : ∀ n : Nat, n < 16 → (spec_SumOfHighest.f 20000 (n : Int) = some (vO n, true)) := by decide +kernel
theorem val_O2 : ∀ n : Nat, n < 16 → (sumL 20000 (n : Int) 0 (wrap64 ((n : Int) + 1)) 0 = some (vO n, true)) := by decide +kernel
theorem v1 : ∀ n : Nat, n < 16 → (((vP n).length : Int) = wrap64 ((n : Int) + 1) ∧ ((vH n).length : Int) = wrap64 ((n : Int) + 1) ∧ ((AreaRow.row n).length : Int) = wrap64 (wrap64 ((n : Int) * (n : Int)) + 1) ∧ (AreaRow.row n).length ≤ 300 ∧ (vH n).length ≤ 300) := by decide +kernel
theorem v2 : ∀ n : Nat, n < 16 → (laws_ySum.f 400 (vP n) = some (vC n) ∧ laws_ySum.f 400 (vH n) = some (vC n) ∧ laws_ySum.f 400 (vT n) = some (vC n) ∧ laws_ySame.f 400 (vT n) (vT n) = some true) := by decide +kernel
theorem v2a : ∀ n : Nat, n < 16 → (laws_ySum.f 400 (AreaRow.row n) = some (vC n)) := by decide +kernel
theorem v3 : ∀ n : Nat, n < 16 → (impl_CountNeverBehind.f 400 (n : Int) (n : Int) 1 = some (vC n, true) ∧ impl_CountPaths.f 400 (n : Int) (wrap64 ((n : Int) + 1)) = some (vcp n, true) ∧ laws_yPower.f 400 4 (n : Int) = some (vp4 n) ∧ vS n = wrap64 (vp4 n - vcp n)) := by decide +kernel
theorem v4 : ∀ n : Nat, n < 16 → (sumw (vH n) 0 0 (vH n).length = vO n ∧ (0 ≤ wrap64 ((n : Int) * (n : Int)) ∧ wrap64 ((n : Int) * (n : Int)) < ((AreaRow.row n).length : Int)) ∧ rd (AreaRow.row n) (wrap64 ((n : Int) * (n : Int))) = 1) := by decide +kernel
theorem v4a : ∀ n : Nat, n < 16 → (sumL2 (AreaRow.row n) 0 0 = vS n) := by decide +kernel
theorem v5 : ∀ n : Nat, n < 16 → (parL (n : Int) 0 (AreaRow.row n) = true) := by decide +kernel
theorem v6 : ∀ n : Nat, n < 16 → ((vP n).length = n + 1 ∧ (vH n).length = n + 1 ∧ (vT n).length = n + 1) := by decide +kernel
theorem v7 : ∀ n : Nat, n < 16 → ∀ i : Nat, i ≤ n → 1 ≤ i → (rd (vP n) (i : Int) = rd (vP n) ((n + 1 - i : Nat) : Int) ∧ laws_ySum.f 100 ((vH n).take (i + 1)) = some (dpVal n i)) := by decide +kernel

theorem par_ok (n : Int) : ∀ (xs : List Int) (i : Nat), parL n i xs = true → ∀ j : Nat, j < xs.length → xs.getD j 0 > 0 → Int.tmod (wrap64 (((i + j : Nat) : Int) - n)) 2 = 0
  | [], _, _, j, hj, _ => absurd hj (Nat.not_lt_zero _)
  | x :: xs, i, h, j, hj, hp => by
    simp only [parL, Bool.and_eq_true, decide_eq_true_eq] at h
    cases j with
    | zero => exact h.1 (by simpa using hp)
    | succ j =>
      have := par_ok n xs (i + 1) h.2 j (by simpa using hj) (by simpa using hp)
      rwa [show i + 1 + j = i + (j + 1) by omega] at this
theorem sum2_ok (ys : List Int) : ∀ (xs : List Int) (i : Nat) (acc : Int), i + xs.length = ys.length → ys.drop i = xs → sumw ys acc i xs.length = sumL2 xs acc i
  | [], _, _, _, _ => rfl
  | x :: xs, i, acc, h, hd => by
    have hi : i < ys.length := by simp only [List.length_cons] at h; omega
    have e : rd ys (i : Int) = x := by
      rw [rd_nat ys i hi]
      have := List.drop_eq_getElem_cons (l := ys) (i := i) hi
      rw [hd] at this
      exact (List.cons.inj this).1.symm
    have e2 : ys.drop (i + 1) = xs := by
      have := List.drop_eq_getElem_cons (l := ys) (i := i) hi
      rw [hd] at this
      exact (List.cons.inj this).2.symm
    simp only [List.length_cons, sumw, sumL2]
    rw [e]
    exact sum2_ok ys xs (i + 1) _ (by simp only [List.length_cons] at h; omega) e2
theorem vals_n (n : Nat) (hn : n < 16) : Vals (n : Int) (vP n) (vH n) (vT n) (AreaRow.row n) (vT n) (vC n) (vS n) (vO n) (vcp n) (vp4 n) := by
  obtain ⟨a1, a2, a3, a4, a5⟩ := v1 n hn
  obtain ⟨b1, b2, b3, b5⟩ := v2 n hn
  obtain ⟨c1, c2, c3, c4⟩ := v3 n hn
  obtain ⟨d2, d3, d4⟩ := v4 n hn
  refine ⟨a1, a2, a3, a4, a5, b1, b2, b3, v2a n hn, b5, c1, c2, fun j h1 h2 => ?_, ?_, d2, c3, c4, d3, d4⟩
  · rw [AreaRow.rd_gd] at h2
    have := par_ok (n : Int) (AreaRow.row n) 0 (v5 n hn) j h1 h2
    rwa [Nat.zero_add] at this
  · rw [sum2_ok (AreaRow.row n) (AreaRow.row n) 0 0 (Nat.zero_add _) rfl]
    exact v4a n hn
theorem rnds_n (n : Nat) (hn : n < 16) : Rnds n (vP n) (vH n) := ⟨(v6 n hn).1, (v6 n hn).2.1, fun i h1 h2 => (v7 n hn i h1 h2).1, fun i h1 h2 => (v7 n hn i h1 h2).2⟩

end Go.Proofs.YtjjkglfpcdedlabDoor.QFnGoodPathsSorted
