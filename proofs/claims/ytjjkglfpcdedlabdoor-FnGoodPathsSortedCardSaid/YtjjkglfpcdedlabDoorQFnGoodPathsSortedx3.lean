/- Written by a program of this repo (xprint: a turned copy of the kit's print, with our own templates in it); Lean checks all of it. -/
import Derived.Test.YtjjkglfpcdedlabDoorQFnGoodPathsSortedx0
import Derived.Test.YtjjkglfpcdedlabDoorQFnGoodPathsSortedx1
namespace Go.Proofs.YtjjkglfpcdedlabDoor.QFnGoodPathsSorted
open Go.RowKit Go.Proofs.YtjjkglfpcdedlabDoorZ Go.Proofs.YtjjkglfpcdedlabDoorZm Go.Maps Go.Proofs.YtjjkglfpcdedlabDoorZc Go.Maps Go.Proofs.YtjjkglfpcdedlabDoorW.PrintWords Go.Proofs.YtjjkglfpcdedlabDoorW.PrintLast Go.Proofs.YtjjkglfpcdedlabDoorW.PrintMore
attribute [local go_sem] max2_int min2_int max_two min_two max_three min_three max_four min_four   -- for this text's walks alone
set_option linter.unusedVariables false
set_option linter.unusedSimpArgs false

/-! ### impl_between_2: function 73 -/
def impl_between_2.g (ups downs low high : Int) : Nat → Int → Int → Option Int
  | 0, _, _ => none
  | k + 1, u, d => if ups < u then some 0 else (if downs < d then some 0 else ((impl_in.f (wrap64 (u - d)) low high).bind fun t => (if t = true then (if u = ups ∧ d = downs then some 1 else ((impl_between_2.g ups downs low high k (wrap64 (u + 1)) d).bind fun a => (impl_between_2.g ups downs low high k u (wrap64 (d + 1))).bind fun b => some (wrap64 (a + b)))) else some 0)))
theorem impl_between_2.mono (ups downs low high : Int) : ∀ k u d, LeO (impl_between_2.g ups downs low high k u d) (impl_between_2.g ups downs low high (k + 1) u d)
  | 0 => fun _ _ r h => by simp [impl_between_2.g] at h
  | k + 1 => by
    intro u d
    have ih := impl_between_2.mono ups downs low high k
    unfold impl_between_2.g
    refine LeO.ite (LeO.refl _) (LeO.ite (LeO.refl _) (LeO.bind (LeO.refl _) fun _ => LeO.ite (LeO.ite (LeO.refl _) (LeO.bind (ih _ _) fun _ => LeO.bind (ih _ _) fun _ => LeO.refl _)) (LeO.refl _)))
theorem impl_between_2.one (ups downs low high : Int) {k k' : Nat} {u d a b : Int} (h : impl_between_2.g ups downs low high k u d = some a) (h' : impl_between_2.g ups downs low high k' u d = some b) : a = b := by
  have up : ∀ (k : Nat) (a : Int), impl_between_2.g ups downs low high k u d = some a → ∀ m, impl_between_2.g ups downs low high (k + m) u d = some a := by
    intro k a h m
    induction m with
    | zero => exact h
    | succ m ih => exact impl_between_2.mono ups downs low high (k + m) u d a ih
  have e1 := up k a h k'
  have e2 := up k' b h' k
  rw [Nat.add_comm] at e2
  exact Option.some.inj (e1.symm.trans e2)
def impl_between_2.ok (ups downs low high : Int) (key : Value) (c : Int) : Prop := ∃ k u d, key = .agg #[.int .i64 u, .int .i64 d] ∧ impl_between_2.g ups downs low high k u d = some c
theorem impl_between_2.enters : Enters Tryd.prog 73 := ent_of Tryd.func73 (by kernel_rfl) rfl
theorem impl_between_2.law : Maps.Keyed Tryd.prog 61 := Maps.Keyed.of_law (deep_law_laid (by kernel_rfl) (m := 2) (by omega) (of_decide_eq_true (by kernel_rfl)) (by kernel_rfl) (by rw [Tryd.underlying61]))
theorem impl_between_2.key (u d : Int) (hu : (Lit.int .i64 u).wf = true) (hd : (Lit.int .i64 d).wf = true) : ∃ kl, keyOf Tryd.prog 61 (.agg #[.int .i64 u, .int .i64 d]) = some kl := by
  obtain ⟨s, hs⟩ : ∃ s, Tryd.prog.types.size = s + 1 := ⟨Tryd.prog.types.size - 1, by kernel_rfl⟩
  exact zKey2 (e := 3) Tryd.underlying61 Tryd.underlying3 (by kernel_rfl) (by kernel_rfl) (by kernel_rfl) hs hu hd
theorem impl_between_2.zero (w : World) : (zeroValue 3).run Tryd.prog w = .ok (.int .i64 0) w := by kernel_rfl
set_option maxHeartbeats 2000000 in
set_option maxRecDepth 100000 in
theorem impl_between_2.calls (ups downs low high : Int) (bu bd bl bh bk bf B : Nat) (hne : B ≠ bu ∧ B ≠ bd ∧ B ≠ bl ∧ B ≠ bh ∧ B ≠ bk ∧ B ≠ bf) : ∀ (k : Nat) (u d r : Int) (n : Nat) (w : World) (_ : (Lit.int .i64 u).wf = true) (_ : (Lit.int .i64 d).wf = true)
    (_ : w.cell? ⟨bu, 0, none⟩ = some (.int .i64 ups)) (_ : w.cell? ⟨bd, 0, none⟩ = some (.int .i64 downs)) (_ : w.cell? ⟨bl, 0, none⟩ = some (.int .i64 low)) (_ : w.cell? ⟨bh, 0, none⟩ = some (.int .i64 high)) (_ : w.cell? ⟨bk, 0, none⟩ = some (.map (some B)))
    (_ : w.cell? ⟨bf, 0, none⟩ = some (.func (.func 73) #[] #[.pointer (some ⟨bu, 0, none⟩), .pointer (some ⟨bd, 0, none⟩), .pointer (some ⟨bl, 0, none⟩), .pointer (some ⟨bh, 0, none⟩), .pointer (some ⟨bk, 0, none⟩), .pointer (some ⟨bf, 0, none⟩)]))
    (_ : Memo Tryd.prog 61 3 w B n (impl_between_2.ok ups downs low high)) (_ : n + 2 ^ k ≤ maxLen) (_ : impl_between_2.g ups downs low high k u d = some r),
    Calls Tryd.prog 73 #[.int .i64 u, .int .i64 d, .pointer (some ⟨bu, 0, none⟩), .pointer (some ⟨bd, 0, none⟩), .pointer (some ⟨bl, 0, none⟩), .pointer (some ⟨bh, 0, none⟩), .pointer (some ⟨bk, 0, none⟩), .pointer (some ⟨bf, 0, none⟩)] w
      fun e w' => e = .returned (.int .i64 r) ∧ w.grownBy w' (some B) ∧ ∃ n', n' < n + 2 ^ k ∧ Memo Tryd.prog 61 3 w' B n' (impl_between_2.ok ups downs low high) := by
  have heg : ∀ (args : Array Value) (w : World), (callFunc 73 args).run Tryd.prog w = .ok (.enter 73 args) w := impl_between_2.enters
  intro k
  induction k with
  | zero => intro u d r n w _ _ _ _ _ _ _ _ _ _ h; simp [impl_between_2.g] at h
  | succ k ih =>
    intro u d r n w hu hd c0 c1 c2 c3 c4 c5 hM hn h
    have hg0 := Aside0.mk h
    have hpos : n < n + 2 ^ (k + 1) := Nat.lt_add_of_pos_right (Nat.pow_pos (by decide))
    unfold impl_between_2.g at h
    by_cases q1 : ups < u
    · rw [if_pos q1] at h
      obtain rfl := Option.some.inj h
      have q1b : decide (ups < u) = true := decide_eq_true q1
      have q1c : decide (u > ups) = true := decide_eq_true q1
      go_enter Tryd.func73, Tryd.ntmps73
      go_wp2
      go_ret
      exact ⟨rfl, World.grownBy.refl _ _, n, hpos, hM⟩
    · rw [if_neg q1] at h
      have q1b : decide (ups < u) = false := decide_eq_false q1
      have q1c : decide (u > ups) = false := decide_eq_false q1
      by_cases q2 : downs < d
      · rw [if_pos q2] at h
        obtain rfl := Option.some.inj h
        have q2b : decide (downs < d) = true := decide_eq_true q2
        have q2c : decide (d > downs) = true := decide_eq_true q2
        go_enter Tryd.func73, Tryd.ntmps73
        go_wp2
        go_ret
        exact ⟨rfl, World.grownBy.refl _ _, n, hpos, hM⟩
      · rw [if_neg q2] at h
        have q2b : decide (downs < d) = false := decide_eq_false q2
        have q2c : decide (d > downs) = false := decide_eq_false q2
        obtain ⟨t, A0, h⟩ := Option.bind_eq_some_iff.mp h
        have A1 := Aside0.mk A0
        clear A0
        by_cases q3 : t = true
        · subst q3
          rw [if_pos rfl] at h
          by_cases q4 : u = ups ∧ d = downs
          · rw [if_pos q4] at h
            obtain rfl := Option.some.inj h
            obtain ⟨q5, q6⟩ := q4
            subst q5 q6
            go_enter Tryd.func73, Tryd.ntmps73
            go_wp2_with (first | (go_at_call 45; refine (impl_in.calls (wrap64 (u - d)) low high true _ A1.out).mono ?_; rintro e w1 ⟨rfl, ⟨nd, rfl⟩⟩))
            go_ret
            exact ⟨rfl, grown_drewN (World.grownBy.refl _ _) _, n, hpos, hM.drewN _⟩
          · rw [if_neg q4] at h
            obtain ⟨kl, hkey⟩ := impl_between_2.key u d hu hd
            have q5 : (u = ups ∧ decide (d = downs) = false) ∨ decide (u = ups) = false := by
              by_cases e : u = ups
              · exact .inl ⟨e, decide_eq_false (fun e2 => q4 ⟨e, e2⟩)⟩
              · exact .inr (decide_eq_false e)
            rcases q5 with ⟨q5, q6⟩ | q5
            · have q7 : (u == ups) = true := beq_iff_eq.mpr q5
              have q8 : (d == downs) = false := beq_eq_false_iff_ne.mpr (of_decide_eq_false q6)
              clear q5 q6
              go_enter Tryd.func73, Tryd.ntmps73
              go_upto_region 6 with (first | (go_at_call 45; refine (impl_in.calls (wrap64 (u - d)) low high true _ A1.out).mono ?_; rintro e w1 ⟨rfl, ⟨nd, rfl⟩⟩) | ((with_reducible refine gate_dst (N := 11) rfl ?_); refine box_event ?hg (N := 11) ?hd (cs := #[.int .i64 0, .int .i64 0]) (t := 61) ?hr ?_; (case hd => rfl); (case hg => rfl); (case hr => first | (go_simp; done) | (go_simp; rfl)); intro gb hgb w4 hbox hb; have HBX := Aside0.mk hbox; have HGE := Aside0.mk (Nat.le_of_eq hgb.symm : w.heap.size ≤ gb); have HB4 := Aside0.mk hb; clear hgb hb; have hcz0 : w4.cell? ⟨gb, 0, none⟩ = some (.int .i64 0) := (blk_cell hbox 0).trans rfl; have hcz1 : w4.cell? ⟨gb, 1, none⟩ = some (.int .i64 0) := (blk_cell hbox 1).trans rfl; have hfz0 := blk_frozen hbox 0; have hfz1 := blk_frozen hbox 1; clear hbox) | ((with_reducible refine gate_store (t := 61) (p := 11) rfl ?_); refine store_event (t := 61) (p := 11) (v := ?vo) (w1 := (w4.setCell ⟨gb, 0, none⟩ (.int .i64 u)).setCell ⟨gb, 1, none⟩ (.int .i64 d)) ?hg ?ho ?hn ?hr ?_; (case ho => rfl); (case hg => rfl); (case hn => rfl); (case hr => first | (go_simp; done) | (go_simp; rfl)); intro w5 hw5; have HW5 := Aside0.mk hw5; have HBY := Aside0.mk (show w5.heap[gb]? = some (.cells #[.int .i64 u, .int .i64 d] 61 (0, 0)) by rw [hw5]; exact blk_set (blk_set HBX.out 0 _) 1 _); clear hw5 hcz0 hcz1 hfz0 hfz1; have hcz0 : w5.cell? ⟨gb, 0, none⟩ = some (.int .i64 u) := (blk_cell HBY.out 0).trans rfl; have hcz1 : w5.cell? ⟨gb, 1, none⟩ = some (.int .i64 d) := (blk_cell HBY.out 1).trans rfl))
              have hgr : w.grownBy w5 (some B) := by
                rw [HW5.out]
                exact grown_set (grown_set (grown_below (grown_drewN (World.grownBy.refl _ _) _) HB4.out) (by exact HGE.out) _) (by exact HGE.out) _
              have hBg : B ≠ gb := Nat.ne_of_lt (Nat.lt_of_lt_of_le hM.lt HGE.out)
              have hM5 : Memo Tryd.prog 61 3 w5 B n (impl_between_2.ok ups downs low high) := by
                rw [HW5.out]
                exact (((hM.drewN _).below HB4.out).setCell hBg _).setCell hBg _
              replace c0 := hgr.cell c0 (fun e => hne.1 (Option.some.inj e).symm)
              replace c1 := hgr.cell c1 (fun e => hne.2.1 (Option.some.inj e).symm)
              replace c2 := hgr.cell c2 (fun e => hne.2.2.1 (Option.some.inj e).symm)
              replace c3 := hgr.cell c3 (fun e => hne.2.2.2.1 (Option.some.inj e).symm)
              replace c4 := hgr.cell c4 (fun e => hne.2.2.2.2.1 (Option.some.inj e).symm)
              replace c5 := hgr.cell c5 (fun e => hne.2.2.2.2.2 (Option.some.inj e).symm)
              have HG5 := Aside0.mk hgr
              clear hgr
              have HM5 := Aside0.mk hM5
              rcases hM5.look (t := 60) impl_between_2.law Tryd.underlying60 Tryd.underlying3 (impl_between_2.zero _) hkey with ⟨c, hok, hrun⟩ | hrun
              · obtain ⟨k', u', d', e1, hg1⟩ := hok
                simp only [Value.agg.injEq, Array.mk.injEq, List.cons.injEq, Value.int.injEq, true_and, and_true] at e1
                obtain ⟨rfl, rfl⟩ := e1
                obtain rfl := impl_between_2.one _ _ _ _ hg1 hg0.out
                clear hM5 hM hg1
                go_wp2
                go_ret
                exact ⟨rfl, HG5.out, n, hpos, HM5.out⟩
              · clear hM5 hM
                obtain ⟨a, Ha, h⟩ := Option.bind_eq_some_iff.mp h
                obtain ⟨b, Hb, h⟩ := Option.bind_eq_some_iff.mp h
                obtain rfl := Option.some.inj h
                have HA := Aside0.mk Ha
                have HB := Aside0.mk Hb
                clear Ha Hb h
                go_upto_region 8 with (first | (fail))
                have hn1 : n + 2 ^ k ≤ maxLen := Nat.le_trans (Nat.add_le_add_left (Nat.pow_le_pow_right (by decide) (Nat.le_succ k)) n) hn
                have hn2 : ∀ m, m < n + 2 ^ k → m + 2 ^ k ≤ maxLen := fun m hm => by rw [Nat.pow_succ] at hn; omega
                have hn3 : ∀ m m', m < n + 2 ^ k → m' < m + 2 ^ k → m' < maxLen ∧ m' + 1 < n + 2 ^ (k + 1) := fun m m' hm hm' => by rw [Nat.pow_succ] at hn ⊢; omega
                go_region_held3 (fun w' => w'.cell? ⟨bf, 0, none⟩ = some (.func (.func 73) #[] #[.pointer (some ⟨bu, 0, none⟩), .pointer (some ⟨bd, 0, none⟩), .pointer (some ⟨bl, 0, none⟩), .pointer (some ⟨bh, 0, none⟩), .pointer (some ⟨bk, 0, none⟩), .pointer (some ⟨bf, 0, none⟩)])) (first | exact c5 | exact c5a | exact c5b) (first | (go_at_call 73; have hq_ := HMa; clear hq_; rw [i64_w (d + 1)]; refine (ih u (wrap64 (d + 1)) b na _ hu (wrap64_wf _) ?c0 ?c1 ?c2 ?c3 ?c4 ?c5 ?cM ?cn HB.out).mono ?_; (case c0 => exact c0a); (case c1 => exact c1a); (case c2 => exact c2a); (case c3 => exact c3a); (case c4 => exact c4a); (case c5 => exact c5a); (case cM => exact HMa.out); (case cn => exact hn2 _ HNa.out); rintro e wb ⟨rfl, hgb, nb, hnb, hMb⟩; have hz0b := hgb.cell hz0a (fun e => hBg (Option.some.inj e).symm); have hz1b := hgb.cell hz1a (fun e => hBg (Option.some.inj e).symm); have HNb := Aside0.mk hnb; clear hnb; have c0b := hgb.cell c0a (fun e => hne.1 (Option.some.inj e).symm); have c1b := hgb.cell c1a (fun e => hne.2.1 (Option.some.inj e).symm); have c2b := hgb.cell c2a (fun e => hne.2.2.1 (Option.some.inj e).symm); have c3b := hgb.cell c3a (fun e => hne.2.2.2.1 (Option.some.inj e).symm); have c4b := hgb.cell c4a (fun e => hne.2.2.2.2.1 (Option.some.inj e).symm); have c5b := hgb.cell c5a (fun e => hne.2.2.2.2.2 (Option.some.inj e).symm); have HMb := Aside0.mk hMb; have HGb := Aside0.mk hgb; clear hMb hgb) | (go_at_call 73; rw [i64_w (u + 1)]; refine (ih (wrap64 (u + 1)) d a n _ (wrap64_wf _) hd ?c0 ?c1 ?c2 ?c3 ?c4 ?c5 ?cM ?cn HA.out).mono ?_; (case c0 => exact c0); (case c1 => exact c1); (case c2 => exact c2); (case c3 => exact c3); (case c4 => exact c4); (case c5 => exact c5); (case cM => exact HM5.out); (case cn => exact hn1); rintro e wa ⟨rfl, hga, na, hna, hMa⟩; have hz0a := hga.cell hcz0 (fun e => hBg (Option.some.inj e).symm); have hz1a := hga.cell hcz1 (fun e => hBg (Option.some.inj e).symm); have HNa := Aside0.mk hna; clear hna; have c0a := hga.cell c0 (fun e => hne.1 (Option.some.inj e).symm); have c1a := hga.cell c1 (fun e => hne.2.1 (Option.some.inj e).symm); have c2a := hga.cell c2 (fun e => hne.2.2.1 (Option.some.inj e).symm); have c3a := hga.cell c3 (fun e => hne.2.2.2.1 (Option.some.inj e).symm); have c4a := hga.cell c4 (fun e => hne.2.2.2.2.1 (Option.some.inj e).symm); have c5a := hga.cell c5 (fun e => hne.2.2.2.2.2 (Option.some.inj e).symm); have HMa := Aside0.mk hMa; have HGa := Aside0.mk hga; clear hMa hga))
                rw [i64_w (a + b)]
                clear c0 c1 c2 c3 c5 c0a c1a c2a c3a c4a c5a c0b c1b c2b c3b c5b hcz0 hcz1 hz0a hz1a hrun
                go_wp2_with (first | (at_mapUpdate; refine wpList_memo_put rfl _ _ _ 60 rfl impl_between_2.law Tryd.underlying60 Tryd.underlying3 rfl HMb.out (hn3 _ _ HNa.out HNb.out).1 (.agg #[.int .i64 u, .int .i64 d]) kl (wrap64 (a + b)) rfl rfl hkey (wrap64_wf _) ⟨k + 1, u, d, rfl, hg0.out⟩ ?_; intro w9 hM9 hg9; have HM9 := Aside0.mk hM9; have HG9 := Aside0.mk hg9; clear hM9 hg9))
                go_ret
                exact ⟨rfl, (((grown_drew HG5.out).trans HGa.out).trans HGb.out).trans HG9.out, nb + 1, (hn3 _ _ HNa.out HNb.out).2, HM9.out⟩
            · have q7 : (u == ups) = false := beq_eq_false_iff_ne.mpr (of_decide_eq_false q5)
              go_enter Tryd.func73, Tryd.ntmps73
              go_upto_region 6 with (first | (go_at_call 45; refine (impl_in.calls (wrap64 (u - d)) low high true _ A1.out).mono ?_; rintro e w1 ⟨rfl, ⟨nd, rfl⟩⟩) | ((with_reducible refine gate_dst (N := 11) rfl ?_); refine box_event ?hg (N := 11) ?hd (cs := #[.int .i64 0, .int .i64 0]) (t := 61) ?hr ?_; (case hd => rfl); (case hg => rfl); (case hr => first | (go_simp; done) | (go_simp; rfl)); intro gb hgb w4 hbox hb; have HBX := Aside0.mk hbox; have HGE := Aside0.mk (Nat.le_of_eq hgb.symm : w.heap.size ≤ gb); have HB4 := Aside0.mk hb; clear hgb hb; have hcz0 : w4.cell? ⟨gb, 0, none⟩ = some (.int .i64 0) := (blk_cell hbox 0).trans rfl; have hcz1 : w4.cell? ⟨gb, 1, none⟩ = some (.int .i64 0) := (blk_cell hbox 1).trans rfl; have hfz0 := blk_frozen hbox 0; have hfz1 := blk_frozen hbox 1; clear hbox) | ((with_reducible refine gate_store (t := 61) (p := 11) rfl ?_); refine store_event (t := 61) (p := 11) (v := ?vo) (w1 := (w4.setCell ⟨gb, 0, none⟩ (.int .i64 u)).setCell ⟨gb, 1, none⟩ (.int .i64 d)) ?hg ?ho ?hn ?hr ?_; (case ho => rfl); (case hg => rfl); (case hn => rfl); (case hr => first | (go_simp; done) | (go_simp; rfl)); intro w5 hw5; have HW5 := Aside0.mk hw5; have HBY := Aside0.mk (show w5.heap[gb]? = some (.cells #[.int .i64 u, .int .i64 d] 61 (0, 0)) by rw [hw5]; exact blk_set (blk_set HBX.out 0 _) 1 _); clear hw5 hcz0 hcz1 hfz0 hfz1; have hcz0 : w5.cell? ⟨gb, 0, none⟩ = some (.int .i64 u) := (blk_cell HBY.out 0).trans rfl; have hcz1 : w5.cell? ⟨gb, 1, none⟩ = some (.int .i64 d) := (blk_cell HBY.out 1).trans rfl))
              have hgr : w.grownBy w5 (some B) := by
                rw [HW5.out]
                exact grown_set (grown_set (grown_below (grown_drewN (World.grownBy.refl _ _) _) HB4.out) (by exact HGE.out) _) (by exact HGE.out) _
              have hBg : B ≠ gb := Nat.ne_of_lt (Nat.lt_of_lt_of_le hM.lt HGE.out)
              have hM5 : Memo Tryd.prog 61 3 w5 B n (impl_between_2.ok ups downs low high) := by
                rw [HW5.out]
                exact (((hM.drewN _).below HB4.out).setCell hBg _).setCell hBg _
              replace c0 := hgr.cell c0 (fun e => hne.1 (Option.some.inj e).symm)
              replace c1 := hgr.cell c1 (fun e => hne.2.1 (Option.some.inj e).symm)
              replace c2 := hgr.cell c2 (fun e => hne.2.2.1 (Option.some.inj e).symm)
              replace c3 := hgr.cell c3 (fun e => hne.2.2.2.1 (Option.some.inj e).symm)
              replace c4 := hgr.cell c4 (fun e => hne.2.2.2.2.1 (Option.some.inj e).symm)
              replace c5 := hgr.cell c5 (fun e => hne.2.2.2.2.2 (Option.some.inj e).symm)
              have HG5 := Aside0.mk hgr
              clear hgr
              have HM5 := Aside0.mk hM5
              rcases hM5.look (t := 60) impl_between_2.law Tryd.underlying60 Tryd.underlying3 (impl_between_2.zero _) hkey with ⟨c, hok, hrun⟩ | hrun
              · obtain ⟨k', u', d', e1, hg1⟩ := hok
                simp only [Value.agg.injEq, Array.mk.injEq, List.cons.injEq, Value.int.injEq, true_and, and_true] at e1
                obtain ⟨rfl, rfl⟩ := e1
                obtain rfl := impl_between_2.one _ _ _ _ hg1 hg0.out
                clear hM5 hM hg1
                go_wp2
                go_ret
                exact ⟨rfl, HG5.out, n, hpos, HM5.out⟩
              · clear hM5 hM
                obtain ⟨a, Ha, h⟩ := Option.bind_eq_some_iff.mp h
                obtain ⟨b, Hb, h⟩ := Option.bind_eq_some_iff.mp h
                obtain rfl := Option.some.inj h
                have HA := Aside0.mk Ha
                have HB := Aside0.mk Hb
                clear Ha Hb h
                go_upto_region 8 with (first | (fail))
                have hn1 : n + 2 ^ k ≤ maxLen := Nat.le_trans (Nat.add_le_add_left (Nat.pow_le_pow_right (by decide) (Nat.le_succ k)) n) hn
                have hn2 : ∀ m, m < n + 2 ^ k → m + 2 ^ k ≤ maxLen := fun m hm => by rw [Nat.pow_succ] at hn; omega
                have hn3 : ∀ m m', m < n + 2 ^ k → m' < m + 2 ^ k → m' < maxLen ∧ m' + 1 < n + 2 ^ (k + 1) := fun m m' hm hm' => by rw [Nat.pow_succ] at hn ⊢; omega
                go_region_held3 (fun w' => w'.cell? ⟨bf, 0, none⟩ = some (.func (.func 73) #[] #[.pointer (some ⟨bu, 0, none⟩), .pointer (some ⟨bd, 0, none⟩), .pointer (some ⟨bl, 0, none⟩), .pointer (some ⟨bh, 0, none⟩), .pointer (some ⟨bk, 0, none⟩), .pointer (some ⟨bf, 0, none⟩)])) (first | exact c5 | exact c5a | exact c5b) (first | (go_at_call 73; have hq_ := HMa; clear hq_; rw [i64_w (d + 1)]; refine (ih u (wrap64 (d + 1)) b na _ hu (wrap64_wf _) ?c0 ?c1 ?c2 ?c3 ?c4 ?c5 ?cM ?cn HB.out).mono ?_; (case c0 => exact c0a); (case c1 => exact c1a); (case c2 => exact c2a); (case c3 => exact c3a); (case c4 => exact c4a); (case c5 => exact c5a); (case cM => exact HMa.out); (case cn => exact hn2 _ HNa.out); rintro e wb ⟨rfl, hgb, nb, hnb, hMb⟩; have hz0b := hgb.cell hz0a (fun e => hBg (Option.some.inj e).symm); have hz1b := hgb.cell hz1a (fun e => hBg (Option.some.inj e).symm); have HNb := Aside0.mk hnb; clear hnb; have c0b := hgb.cell c0a (fun e => hne.1 (Option.some.inj e).symm); have c1b := hgb.cell c1a (fun e => hne.2.1 (Option.some.inj e).symm); have c2b := hgb.cell c2a (fun e => hne.2.2.1 (Option.some.inj e).symm); have c3b := hgb.cell c3a (fun e => hne.2.2.2.1 (Option.some.inj e).symm); have c4b := hgb.cell c4a (fun e => hne.2.2.2.2.1 (Option.some.inj e).symm); have c5b := hgb.cell c5a (fun e => hne.2.2.2.2.2 (Option.some.inj e).symm); have HMb := Aside0.mk hMb; have HGb := Aside0.mk hgb; clear hMb hgb) | (go_at_call 73; rw [i64_w (u + 1)]; refine (ih (wrap64 (u + 1)) d a n _ (wrap64_wf _) hd ?c0 ?c1 ?c2 ?c3 ?c4 ?c5 ?cM ?cn HA.out).mono ?_; (case c0 => exact c0); (case c1 => exact c1); (case c2 => exact c2); (case c3 => exact c3); (case c4 => exact c4); (case c5 => exact c5); (case cM => exact HM5.out); (case cn => exact hn1); rintro e wa ⟨rfl, hga, na, hna, hMa⟩; have hz0a := hga.cell hcz0 (fun e => hBg (Option.some.inj e).symm); have hz1a := hga.cell hcz1 (fun e => hBg (Option.some.inj e).symm); have HNa := Aside0.mk hna; clear hna; have c0a := hga.cell c0 (fun e => hne.1 (Option.some.inj e).symm); have c1a := hga.cell c1 (fun e => hne.2.1 (Option.some.inj e).symm); have c2a := hga.cell c2 (fun e => hne.2.2.1 (Option.some.inj e).symm); have c3a := hga.cell c3 (fun e => hne.2.2.2.1 (Option.some.inj e).symm); have c4a := hga.cell c4 (fun e => hne.2.2.2.2.1 (Option.some.inj e).symm); have c5a := hga.cell c5 (fun e => hne.2.2.2.2.2 (Option.some.inj e).symm); have HMa := Aside0.mk hMa; have HGa := Aside0.mk hga; clear hMa hga))
                rw [i64_w (a + b)]
                clear c0 c1 c2 c3 c5 c0a c1a c2a c3a c4a c5a c0b c1b c2b c3b c5b hcz0 hcz1 hz0a hz1a hrun
                go_wp2_with (first | (at_mapUpdate; refine wpList_memo_put rfl _ _ _ 60 rfl impl_between_2.law Tryd.underlying60 Tryd.underlying3 rfl HMb.out (hn3 _ _ HNa.out HNb.out).1 (.agg #[.int .i64 u, .int .i64 d]) kl (wrap64 (a + b)) rfl rfl hkey (wrap64_wf _) ⟨k + 1, u, d, rfl, hg0.out⟩ ?_; intro w9 hM9 hg9; have HM9 := Aside0.mk hM9; have HG9 := Aside0.mk hg9; clear hM9 hg9))
                go_ret
                exact ⟨rfl, (((grown_drew HG5.out).trans HGa.out).trans HGb.out).trans HG9.out, nb + 1, (hn3 _ _ HNa.out HNb.out).2, HM9.out⟩
        · replace q3 := Bool.eq_false_iff.mpr q3
          subst q3
          rw [if_neg (show ¬ (false = true) by decide)] at h
          obtain rfl := Option.some.inj h
          go_enter Tryd.func73, Tryd.ntmps73
          go_wp2_with (first | (go_at_call 45; refine (impl_in.calls (wrap64 (u - d)) low high false _ A1.out).mono ?_; rintro e w1 ⟨rfl, ⟨nd, rfl⟩⟩))
          go_ret
          exact ⟨rfl, grown_drewN (World.grownBy.refl _ _) _, n, hpos, hM.drewN _⟩
/-- What the function value that impl.between hands back leans on. -/
def impl_between_2.Env (w : World) (base : Nat) (ups downs low high : Int) (n : Nat) (lb : Array Value) : Prop := ∃ bu bd bl bh bk bf B : Nat, (B ≠ bu ∧ B ≠ bd ∧ B ≠ bl ∧ B ≠ bh ∧ B ≠ bk ∧ B ≠ bf) ∧ base ≤ B ∧ lb = #[.pointer (some ⟨bu, 0, none⟩), .pointer (some ⟨bd, 0, none⟩), .pointer (some ⟨bl, 0, none⟩), .pointer (some ⟨bh, 0, none⟩), .pointer (some ⟨bk, 0, none⟩), .pointer (some ⟨bf, 0, none⟩)] ∧
  w.cell? ⟨bu, 0, none⟩ = some (.int .i64 ups) ∧ w.cell? ⟨bd, 0, none⟩ = some (.int .i64 downs) ∧ w.cell? ⟨bl, 0, none⟩ = some (.int .i64 low) ∧ w.cell? ⟨bh, 0, none⟩ = some (.int .i64 high) ∧ w.cell? ⟨bk, 0, none⟩ = some (.map (some B)) ∧
  w.cell? ⟨bf, 0, none⟩ = some (.func (.func 73) #[] #[.pointer (some ⟨bu, 0, none⟩), .pointer (some ⟨bd, 0, none⟩), .pointer (some ⟨bl, 0, none⟩), .pointer (some ⟨bh, 0, none⟩), .pointer (some ⟨bk, 0, none⟩), .pointer (some ⟨bf, 0, none⟩)]) ∧ Memo Tryd.prog 61 3 w B n (impl_between_2.ok ups downs low high)
theorem impl_between_2.apply {w : World} {base : Nat} {ups downs low high : Int} {n : Nat} {lb : Array Value} (hE : impl_between_2.Env w base ups downs low high n lb) (hb : base ≤ w.heap.size) (k : Nat) (hn : n + 2 ^ k ≤ maxLen) (u d r : Int) (hu : (Lit.int .i64 u).wf = true) (hd : (Lit.int .i64 d).wf = true) (h : impl_between_2.g ups downs low high k u d = some r) :
    Calls Tryd.prog 73 (#[.int .i64 u, .int .i64 d] ++ lb) w fun e w' => e = .returned (.int .i64 r) ∧ Below base w w' := by
  obtain ⟨bu, bd, bl, bh, bk, bf, B, hne, hB, rfl, c0, c1, c2, c3, c4, c5, hM⟩ := hE
  refine (impl_between_2.calls ups downs low high bu bd bl bh bk bf B hne k u d r n w hu hd c0 c1 c2 c3 c4 c5 hM hn h).mono ?_
  rintro e w' ⟨rfl, hg, _⟩
  exact ⟨rfl, (Below.refl _ _).grown hg hb (fun k e => by injection e with e; omega)⟩

/-! ### impl_between: function 55 -/
set_option maxHeartbeats 2000000 in
set_option maxRecDepth 100000 in
theorem impl_between.calls (ups downs low high : Int) (w : World) :
    Calls Tryd.prog 55 #[.int .i64 ups, .int .i64 downs, .int .i64 low, .int .i64 high] w fun e w' => ∃ lb, e = .returned (.func (.func 73) #[] lb) ∧ impl_between_2.Env w' w.heap.size ups downs low high 0 lb ∧ Below w.heap.size w w' := by
  have hmf : ∀ (fn : Fn) (first cap : Array Value) (w : World), (Instr.makeFunc fn first cap).run Tryd.prog w = .ok (.func fn first cap) w := fun _ _ _ _ => rfl
  have hmm := @run_makeMap Tryd.prog
  have hsf := fun (x : Addr) (fn : Fn) (a b : Array Value) (W : World) => run_store Tryd.prog W x (.func fn a b) .plain rfl
  go_enter Tryd.func55, Tryd.ntmps55
  go_wp2
  go_ret
  refine ⟨_, rfl, ?_, by repeat (first | exact Below.refl _ _ | apply below_alloc)⟩
  refine ⟨w.heap.size, w.heap.size + 1, w.heap.size + 1 + 1, w.heap.size + 1 + 1 + 1, w.heap.size + 1 + 1 + 1 + 1 + 1, w.heap.size + 1 + 1 + 1 + 1 + 1 + 1, w.heap.size + 1 + 1 + 1 + 1, by omega, by omega, rfl, ?_, ?_, ?_, ?_, ?_, ?_, ?_⟩
  iterate 6 (focus (repeat (first | exact cell_alloc_new _ _ _ (by simp) | refine cell_alloc_old ?_ _)))
  refine Memo.alloc (Memo.alloc ?_ _) _
  have hh := Memo.made (P := Tryd.prog) (K := 61) (E := 3) (ok := impl_between_2.ok ups downs low high) ((((w.alloc (Obj.cells #[Value.int IntKind.i64 ups] 3)).alloc (Obj.cells #[Value.int IntKind.i64 downs] 3)).alloc (Obj.cells #[Value.int IntKind.i64 low] 3)).alloc (Obj.cells #[Value.int IntKind.i64 high] 3))
  simpa only [World.size_alloc] using hh

/-! ### impl_byHeight: function 40 -/
def impl_byHeight.f (_k : Nat) (n h : Int) : Option Int := (impl_between_2.g n n 0 h 62 0 0).bind fun a => (impl_between_2.g n n 0 (wrap64 (h - 1)) 62 0 0).bind fun b => some (wrap64 (a - b))
theorem impl_byHeight.mono : ∀ n h k, LeO (impl_byHeight.f k n h) (impl_byHeight.f (k + 1) n h) := fun _ _ _ => LeO.refl _
set_option maxHeartbeats 2000000 in
set_option maxRecDepth 100000 in
theorem impl_byHeight.calls (k : Nat) (n x r : Int) (w : World) (h : impl_byHeight.f k n x = some r) :
    Calls Tryd.prog 40 #[.int .i64 n, .int .i64 x] w fun e w' => e = .returned (.int .i64 r) ∧ Below w.heap.size w w' := by
  have heg : ∀ (args : Array Value) (w : World), (callFunc 73 args).run Tryd.prog w = .ok (.enter 73 args) w := impl_between_2.enters
  obtain ⟨a, A0, h⟩ := Option.bind_eq_some_iff.mp h
  obtain ⟨b, B0, h⟩ := Option.bind_eq_some_iff.mp h
  obtain rfl := Option.some.inj h
  have HA := Aside0.mk A0
  have HB := Aside0.mk B0
  clear A0 B0 h
  go_enter Tryd.func40, Tryd.ntmps40
  go_wp2_with (first | (go_at_call 55; (first | (have hq_ := HB2; clear hq_; refine (impl_between.calls n n 0 (wrap64 (x - 1)) _).mono ?_; rintro e w3 ⟨lb3, rfl, hE3, hb3⟩; have HE3 := Aside0.mk hE3; have HB3 := Aside0.mk hb3; clear hE3 hb3) | (refine (impl_between.calls n n 0 x _).mono ?_; rintro e w1 ⟨lb1, rfl, hE1, hb1⟩; have HE1 := Aside0.mk hE1; have HB1 := Aside0.mk hb1; clear hE1 hb1))) | (go_at_fn 73; (first | (have hq_ := HB3; clear hq_; refine (impl_between_2.apply HE3.out (below_size HB3.out) 62 (by decide) 0 0 b (by decide) (by decide) HB.out).mono ?_; rintro e w4 ⟨rfl, hb4⟩; have HB4 := Aside0.mk (below_step HB2.out (HB3.out.trans hb4)); clear hb4) | (refine (impl_between_2.apply HE1.out (below_size HB1.out) 62 (by decide) 0 0 a (by decide) (by decide) HA.out).mono ?_; rintro e w2 ⟨rfl, hb2⟩; have HB2 := Aside0.mk (HB1.out.trans hb2); clear hb2))))
  go_ret
  exact ⟨rfl, HB4.out⟩

/-! ### impl_CountByHeight_1: function 39 -/
def impl_CountByHeight_1.f (k : Nat) (n x : Int) : Option Int := (impl_byHeight.f k n x).bind fun t => some t
theorem impl_CountByHeight_1.mono : ∀ n x k, LeO (impl_CountByHeight_1.f k n x) (impl_CountByHeight_1.f (k + 1) n x) := fun n x k => LeO.bind (impl_byHeight.mono _ _ _) fun _ => LeO.refl _
set_option maxHeartbeats 2000000 in
set_option maxRecDepth 100000 in
theorem impl_CountByHeight_1.calls (k : Nat) (B : Nat) (n x r : Int) (w : World) (hc : w.cell? ⟨B, 0, none⟩ = some (.int .i64 n)) (h : impl_CountByHeight_1.f k n x = some r) :
    Calls Tryd.prog 39 #[.int .i64 x, .pointer (some ⟨B, 0, none⟩)] w fun e w' => e = .returned (.int .i64 r) ∧ Below w.heap.size w w' := by
  have HB := Aside0.mk (Below.refl w.heap.size w)
  obtain ⟨t, A0, h1⟩ := Option.bind_eq_some_iff.mp h
  obtain rfl := Option.some.inj h1
  clear h h1
  have A1 := Aside0.mk A0
  clear A0
  go_enter Tryd.func39, Tryd.ntmps39
  go_wp2_with (first | ((with_reducible refine gate_callee (f := 40) rfl ?_); refine goesL_ (some 6) rfl rfl Tryd.func40 (by kernel_rfl) rfl #[.int .i64 n, .int .i64 x] rfl (by (try simp only [List.map_toArray, List.map_cons, List.map_nil]); first | done | rfl | (simp only [List.length_drop, List.length_take]; rfl)) ?_; (with_reducible refine (impl_byHeight.calls k n x t _ A1.out).mono ?_); rintro e w' ⟨rfl, hb⟩; refine ⟨_, rfl, ?_⟩; have n1_ := Aside0.mk (below_step (by repeat (first | (with_reducible first | exact HB.out | apply below_alloc | apply pw_below_drewN | apply below_drew1) | exact HB.out)) hb); clear HB; have HB := n1_; clear n1_; clear hb))
  go_ret
  exact ⟨by first | rfl | (simp; done) | (simp [*]; done), (by repeat (first | (with_reducible first | exact HB.out | apply below_alloc | apply pw_below_drewN | apply below_drew1) | exact HB.out))⟩

/-! ### impl_CountByHeight: function 8 -/
def impl_CountByHeight.f (k : Nat) (a0 : Int) : Option (List Int × Bool) := (impl_isPairs.f a0).bind fun t => (if t = true then ((impl_numbers.f k a0 (fun x => impl_CountByHeight_1.f k a0 x)).bind fun l => (some (l, true))) else (some (([] : List Int), false)))
theorem impl_CountByHeight.mono : ∀ a0 k, LeO (impl_CountByHeight.f k a0) (impl_CountByHeight.f (k + 1) a0) := by
  intro a0 k
  unfold impl_CountByHeight.f
  exact LeO.bind (LeO.refl _) fun _ => LeO.ite (LeO.bind (impl_numbers.mono (fun x => impl_CountByHeight_1.mono _ _ _) _ _) fun _ => LeO.refl _) (LeO.refl _)
set_option maxHeartbeats 2000000 in
set_option maxRecDepth 100000 in
theorem impl_CountByHeight.calls (k : Nat) (a0 : Int) (r1 : List Int) (r2 : Bool) (w : World) (h : impl_CountByHeight.f k a0 = some (r1, r2)) :
    Calls Tryd.prog 8 #[.int .i64 a0] w fun e w' => ∃ v0_ : Value, e = .returned (.tuple #[v0_, .bool r2]) ∧ Kd.R (Kd.int .i64) 3 w' w.heap.size (fun _ => True) v0_ r1 ∧ Below w.heap.size w w' := by
  have HB := Aside0.mk (Below.refl w.heap.size w)
  have hmf : ∀ (fn : Fn) (first cap : Array Value) (w : World), (Instr.makeFunc fn first cap).run Tryd.prog w = .ok (.func fn first cap) w := fun _ _ _ _ => rfl
  have H := h
  clear h
  unfold impl_CountByHeight.f at H
  replace H := Option.bind_eq_some_iff.mp H
  obtain ⟨t159, A20, H⟩ := H
  have A2 := Aside0.mk A20
  clear A20
  by_cases c3 : t159 = true
  · subst c3
    rw [if_pos rfl] at H
    replace H := Option.bind_eq_some_iff.mp H
    obtain ⟨l, A30, H⟩ := H
    have A3 := Aside0.mk A30
    clear A30
    simp only [Option.some.injEq, Prod.mk.injEq] at H
    obtain ⟨rfl, rfl⟩ := H
    go_enter Tryd.func8, Tryd.ntmps8
    go_wp2_with (first | ((with_reducible refine gate_callee (f := 33) rfl ?_); refine goesL_ (some 5) rfl rfl Tryd.func33 (by kernel_rfl) rfl #[.int .i64 a0] rfl (by (try simp only [List.map_toArray, List.map_cons, List.map_nil]); first | done | rfl | (simp only [List.length_drop, List.length_take]; rfl)) ?_; (with_reducible refine (impl_isPairs.calls a0 true _ A2.out).mono ?_); rintro e w' ⟨rfl, ⟨nd, rfl⟩⟩; refine ⟨_, rfl, ?_⟩) | ((with_reducible refine gate_callee (f := 34) rfl ?_); refine goesL_ (some 9) rfl rfl Tryd.func34 (by kernel_rfl) rfl #[.int .i64 a0, .func (.func 39) #[] #[.pointer (some ⟨w.heap.size, 0, none⟩)]] rfl (by (try simp only [List.map_toArray, List.map_cons, List.map_nil]); first | done | rfl | (simp only [List.length_drop, List.length_take]; rfl)) ?_; refine (impl_numbers.calls k a0 39 #[.pointer (some ⟨w.heap.size, 0, none⟩)] (fun x => impl_CountByHeight_1.f k a0 x) l _ (ent_of Tryd.func39 (by kernel_rfl) rfl) ?hof A3.out).mono ?_; (case hof => intro x t W hb ht; exact (impl_CountByHeight_1.calls k w.heap.size a0 x t W ((hb.cell (p := ⟨w.heap.size, 0, none⟩) (by simp)).trans (by simp)) ht).mono fun e w' ⟨he, hd⟩ => ⟨he, hd⟩); rintro e w5 ⟨v0, rfl, hr, hb⟩; refine ⟨_, rfl, ?_⟩; have n0_ := Aside0.mk (Kd.R_lower hr (below_size (by repeat (first | (with_reducible first | exact HB.out | apply below_alloc | apply pw_below_drewN | apply below_drew1) | exact HB.out)))); have n1_ := Aside0.mk (below_step (by repeat (first | (with_reducible first | exact HB.out | apply below_alloc | apply pw_below_drewN | apply below_drew1) | exact HB.out)) hb); clear HB; have HO := n0_; have HB := n1_; clear n0_ n1_; clear hr hb))
    go_ret2
    exact ⟨_, by first | rfl | (simp; done) | (simp [*]; done), by (with_reducible repeat (first | apply Kd.R_alloc | apply Kd.R_drewN | apply Kd.R_drew)); exact HO.out, (by repeat (first | (with_reducible first | exact HB.out | apply below_alloc | apply pw_below_drewN | apply below_drew1) | exact HB.out))⟩
  · replace c3 := Bool.eq_false_iff.mpr c3
    subst c3
    rw [if_neg (show ¬ (false = true) by decide)] at H
    simp only [Option.some.injEq, Prod.mk.injEq] at H
    obtain ⟨rfl, rfl⟩ := H
    go_enter Tryd.func8, Tryd.ntmps8
    go_wp2_with (first | ((with_reducible refine gate_callee (f := 33) rfl ?_); refine goesL_ (some 5) rfl rfl Tryd.func33 (by kernel_rfl) rfl #[.int .i64 a0] rfl (by (try simp only [List.map_toArray, List.map_cons, List.map_nil]); first | done | rfl | (simp only [List.length_drop, List.length_take]; rfl)) ?_; (with_reducible refine (impl_isPairs.calls a0 false _ A2.out).mono ?_); rintro e w' ⟨rfl, ⟨nd, rfl⟩⟩; refine ⟨_, rfl, ?_⟩))
    go_ret2
    exact ⟨_, by first | rfl | (simp; done) | (simp [*]; done), Kd.R_nil _ _ _ _ _, (by repeat (first | (with_reducible first | exact HB.out | apply below_alloc | apply pw_below_drewN | apply below_drew1) | exact HB.out))⟩

/-! ### spec_reWithin: function 71 -/
mutual
def spec_reWithin.l0 : Nat → Int → Int → List Int → Int → Option (Int)
  | 0, _, _, _, _ => none
  | k + 1, x0, x1, x5, x6 => if x6 < (wrap64 (2 * x0)) then (if 0 ≤ (wrap64 (x1 + 1)) then (if (wrap64 (x1 + 1) : Int).toNat ≤ 35184372088832 then (spec_reWithin.l1 k x0 x1 x6 (List.replicate (wrap64 (x1 + 1) : Int).toNat 0) x5 (x5.length : Int) 0) else (none)) else (none)) else (if 0 < (x5.length : Int) then (some (rd x5 0)) else (none))
def spec_reWithin.l1 : Nat → Int → Int → Int → List Int → List Int → Int → Int → Option (Int)
  | 0, _, _, _, _, _, _, _ => none
  | k + 1, x0, x1, x6, x7, x24, x25, x26 => if x26 < x25 then (if 0 ≤ x26 then (if x26 < (x24.length : Int) then (if x26 > 0 then (if 0 ≤ (wrap64 (x26 - 1)) then (if (wrap64 (x26 - 1)) < (x7.length : Int) then ((some (x7.set ((wrap64 (x26 - 1)) : Int).toNat (wrap64 ((rd x7 (wrap64 (x26 - 1))) + (rd x24 x26))) : List Int)).bind fun y157 => (if x26 < x1 then (if 0 ≤ (wrap64 (x26 + 1)) then (if (wrap64 (x26 + 1)) < (x7.length : Int) then (spec_reWithin.l1 k x0 x1 x6 (y157.set ((wrap64 (x26 + 1)) : Int).toNat (wrap64 ((rd y157 (wrap64 (x26 + 1))) + (rd x24 x26)))) x24 x25 (wrap64 (x26 + 1))) else (none)) else (none)) else (spec_reWithin.l1 k x0 x1 x6 y157 x24 x25 (wrap64 (x26 + 1))))) else (none)) else (none)) else (if x26 < x1 then (if 0 ≤ (wrap64 (x26 + 1)) then (if (wrap64 (x26 + 1)) < (x7.length : Int) then (spec_reWithin.l1 k x0 x1 x6 (x7.set ((wrap64 (x26 + 1)) : Int).toNat (wrap64 ((rd x7 (wrap64 (x26 + 1))) + (rd x24 x26)))) x24 x25 (wrap64 (x26 + 1))) else (none)) else (none)) else (spec_reWithin.l1 k x0 x1 x6 x7 x24 x25 (wrap64 (x26 + 1))))) else (none)) else (none)) else (spec_reWithin.l0 k x0 x1 x7 (wrap64 (x6 + 1)))
end
def spec_reWithin.f (k : Nat) (a0 : Int) (a1 : Int) : Option (Int) := if 0 ≤ (wrap64 (a1 + 1)) then (if (wrap64 (a1 + 1) : Int).toNat ≤ 35184372088832 then ((some (List.replicate (wrap64 (a1 + 1) : Int).toNat 0 : List Int)).bind fun y147 => (if 0 < (y147.length : Int) then (spec_reWithin.l0 k a0 a1 (y147.set (0 : Int).toNat 1) 0) else (none))) else (none)) else (none)
theorem spec_reWithin.mono_l : ∀ k, (∀ y0 y1 y2 y3, LeO (spec_reWithin.l0 k y0 y1 y2 y3) (spec_reWithin.l0 (k + 1) y0 y1 y2 y3)) ∧ (∀ y0 y1 y2 y3 y4 y5 y6, LeO (spec_reWithin.l1 k y0 y1 y2 y3 y4 y5 y6) (spec_reWithin.l1 (k + 1) y0 y1 y2 y3 y4 y5 y6))
  | 0 => ⟨fun _ _ _ _ r h => by simp [spec_reWithin.l0] at h, fun _ _ _ _ _ _ _ r h => by simp [spec_reWithin.l1] at h⟩
  | k + 1 => by
    obtain ⟨ih0, ih1⟩ := spec_reWithin.mono_l k
    refine ⟨?_, ?_⟩
    · intro y0 y1 y2 y3
      unfold spec_reWithin.l0
      repeat' first
      | (with_reducible exact ih0 _ _ _ _)
      | (with_reducible exact ih1 _ _ _ _ _ _ _)
      | (with_reducible exact LeO.refl _)
      | (with_reducible exact LeO.none _)
      | (with_reducible refine LeO.ite ?_ ?_)
      | (with_reducible refine LeO.bind ?_ (fun _ => ?_))
      | exact ih0 _ _ _ _
      | exact ih1 _ _ _ _ _ _ _
      | exact LeO.none _
      | refine LeO.ite ?_ ?_
      | refine LeO.bind ?_ (fun _ => ?_)
    · intro y0 y1 y2 y3 y4 y5 y6
      unfold spec_reWithin.l1
      repeat' first
      | (with_reducible exact ih0 _ _ _ _)
      | (with_reducible exact ih1 _ _ _ _ _ _ _)
      | (with_reducible exact LeO.refl _)
      | (with_reducible exact LeO.none _)
      | (with_reducible refine LeO.ite ?_ ?_)
      | (with_reducible refine LeO.bind ?_ (fun _ => ?_))
      | exact ih0 _ _ _ _
      | exact ih1 _ _ _ _ _ _ _
      | exact LeO.none _
      | refine LeO.ite ?_ ?_
      | refine LeO.bind ?_ (fun _ => ?_)
theorem spec_reWithin.mono : ∀ a0 a1 k, LeO (spec_reWithin.f k a0 a1) (spec_reWithin.f (k + 1) a0 a1) := by
  intro a0 a1 k
  obtain ⟨ih0, ih1⟩ := spec_reWithin.mono_l k
  unfold spec_reWithin.f
  repeat' first
      | (with_reducible exact ih0 _ _ _ _)
      | (with_reducible exact ih1 _ _ _ _ _ _ _)
      | (with_reducible exact LeO.refl _)
      | (with_reducible exact LeO.none _)
      | (with_reducible refine LeO.ite ?_ ?_)
      | (with_reducible refine LeO.bind ?_ (fun _ => ?_))
      | exact ih0 _ _ _ _
      | exact ih1 _ _ _ _ _ _ _
      | exact LeO.none _
      | refine LeO.ite ?_ ?_
      | refine LeO.bind ?_ (fun _ => ?_)
set_option maxHeartbeats 8000000 in
set_option maxRecDepth 100000 in
theorem spec_reWithin.calls (k : Nat) (a0 : Int) (a1 : Int) (r : Int) (w : World) (h : spec_reWithin.f k a0 a1 = some r) :
    Calls Tryd.prog 71 #[.int .i64 a0, .int .i64 a1] w fun e w' => e = .returned (.int .i64 r) ∧ Below w.heap.size w w' := by
  have HB := Aside0.mk (Below.refl w.heap.size w)
  have H : (if 0 ≤ (wrap64 (a1 + 1)) then (if (wrap64 (a1 + 1) : Int).toNat ≤ 35184372088832 then ((some (List.replicate (wrap64 (a1 + 1) : Int).toNat 0 : List Int)).bind fun y147 => (if 0 < (y147.length : Int) then (spec_reWithin.l0 k a0 a1 (y147.set (0 : Int).toNat 1) 0) else (none))) else (none)) else (none)) = some r := h
  clear h
  obtain ⟨ji3, hji3⟩ : ∃ j_ : Int, (wrap64 (a1 + 1)) = j_ := ⟨_, rfl⟩
  replace H : (if 0 ≤ (ji3) then (if (ji3 : Int).toNat ≤ 35184372088832 then ((some (List.replicate (ji3 : Int).toNat 0 : List Int)).bind fun y147 => (if 0 < (y147.length : Int) then (spec_reWithin.l0 k a0 a1 (y147.set (0 : Int).toNat 1) 0) else (none))) else (none)) else (none)) = some r := by first | (rw [hji3] at H; exact H) | (simp only [hji3] at H ⊢; exact H)
  have hji3w : (IntKind.i64.wrap (a1 + 1)) = ji3 := (i64_w _).trans hji3
  by_cases c4 : 0 ≤ (ji3)
  · rw [if_pos c4] at H
    have c4b0 := eq_true c4
    have c4b1 : decide (0 ≤ (ji3)) = true := decide_eq_true c4
    clear c4
    by_cases c5 : (ji3 : Int).toNat ≤ 35184372088832
    · rw [if_pos c5] at H
      have c5b0 := eq_true c5
      have c5b1 : decide ((ji3 : Int).toNat ≤ 35184372088832) = true := decide_eq_true c5
      clear c5
      obtain ⟨y147, hy147⟩ : ∃ y_ : List Int, y_ = (List.replicate (ji3 : Int).toNat 0) := ⟨_, rfl⟩
      replace H : (if 0 < (y147.length : Int) then (spec_reWithin.l0 k a0 a1 (y147.set (0 : Int).toNat 1) 0) else (none)) = some r := by first | (rw [hy147]; with_reducible exact H) | (have H2_ := (Option.bind_some _ _).symm.trans H; rw [hy147]; with_reducible exact H2_) | (have H2_ := (Option.bind_some _ _).symm.trans H; with_reducible exact H2_) | with_reducible exact H | (rw [hy147]; exact H) | exact H
      have Ny147 := Aside0.mk hy147
      clear hy147
      by_cases c6 : 0 < (y147.length : Int)
      · rw [if_pos c6] at H
        have c6b0 : decide (0 < (y147.length : Int)) = true := decide_eq_true c6
        have c6b1 : decide (0 < y147.length) = true := decide_eq_true (by omega)
        clear c6
        obtain ⟨y150, hy150⟩ : ∃ y_ : List Int, y_ = (y147.set (0 : Int).toNat 1) := ⟨_, rfl⟩
        replace H : (spec_reWithin.l0 k a0 a1 y150 0) = some r := by first | (rw [hy150]; with_reducible exact H) | (have H2_ := (Option.bind_some _ _).symm.trans H; rw [hy150]; with_reducible exact H2_) | (have H2_ := (Option.bind_some _ _).symm.trans H; with_reducible exact H2_) | with_reducible exact H | (rw [hy150]; exact H) | exact H
        have Ny150 := Aside0.mk hy150
        clear hy150
        have H' := Aside0.mk H
        clear H
        go_enter Tryd.func71, Tryd.ntmps71
        go_wp2_with (first | ((with_reducible refine gate_dst (N := 12) rfl ?_); refine Kd.R_make (Kd.int .i64) _ 3 rfl (N := 12) rfl 25 _ _ rfl ji3 rfl rfl Tryd.underlying25 (.int .i64 0) 8 info3 rfl (by decide) (by omega) 0 (ok := fun _ => True) (okp := fun _ => True) rfl (fun _ hk => hk) trivial (of_decide_eq_true (by first | (with_reducible assumption) | assumption)) (Nat.le_trans (Nat.mul_le_mul_right _ (of_decide_eq_true (by first | (with_reducible assumption) | assumption) : ji3.toNat ≤ 35184372088832)) (by omega)) (Below.refl _ _) (Nat.le_refl _) ?_; intro v148 w8 ho9 hb hg_ hnew_; clear hg_ hnew_; (first | rw [← Ny147.out] at ho9 | (simp only [Int.reduceToNat] at ho9; rw [← Ny147.out] at ho9)); have n0_ := Aside0.mk (Kd.R_lower ho9 (below_size (by repeat (first | (with_reducible first | exact HB.out | apply below_alloc | apply pw_below_drewN | apply below_drew1) | exact HB.out)))); have n1_ := Aside0.mk (below_step (by repeat (first | (with_reducible first | exact HB.out | apply below_alloc | apply pw_below_drewN | apply below_drew1) | exact HB.out)) hb); clear HB; have HO149 := n0_; have HB := n1_; clear n0_ n1_; clear hb ho9; have p7 : 0 ≤ (0 : Int) := (by omega); have q7 : (0 : Int) < ((y147.length : Int) : Int) := of_decide_eq_true (by first | (with_reducible assumption) | assumption); have qi7 : (0 < y147.length) = True := eq_true (by omega); obtain ⟨go7, co7, eo7, gb7, gl7, cl7, HG7⟩ := Kd.R_form HO149.out (by omega); (first | cases eo7 | (injection eo7 with ea_ en_ ec_; (first | subst ea_ | (injection ea_ with ea_; subst ea_)); subst ec_; clear en_)); have GB7 := Aside0.mk gb7; have GG7 := Aside0.mk HG7; clear gb7 gl7 HG7; obtain ⟨hx7_0, hf7_0⟩ := Kd.R_celln 0 HO149.out (0 : Int) p7 q7; (try rw [show ((0 : Int)).toNat = 0 from rfl] at hx7_0); (try simp only [Nat.reduceMul, Nat.zero_mul, Nat.zero_add, Nat.reduceAdd] at hx7_0); (try rw [show ((0 : Int)).toNat = 0 from rfl] at hf7_0); (try simp only [Nat.reduceMul, Nat.zero_mul, Nat.zero_add, Nat.reduceAdd] at hf7_0); replace p7 := eq_true p7; replace q7 := eq_true q7; obtain ⟨hy10_, hz10_⟩ := Kd.R_celln 0 HO149.out (0 : Int) (by omega) (of_decide_eq_true (by first | (with_reducible assumption) | assumption)); (try simp only [Int.reduceToNat, Int.toNat_zero, Int.toNat_ofNat, Nat.reduceMul, Nat.zero_mul, Nat.zero_add] at hy10_ hz10_); (try rw [show ((0 : Int)).toNat = 0 from rfl] at hy10_); (try rw [show ((0 : Int)).toNat = 0 from rfl] at hz10_); have HP10 := Kd.R_putg HO149.out (0 : Int) 1) | ((with_reducible refine gate_store (t := 3) (p := 14) rfl ?_); refine store_event (t := 3) (p := 14) (v := ?vo_w11) (w1 := (w8.setCell ⟨go7, (0 : Int).toNat, none⟩ (.int .i64 1))) ?hg ?ho ?hn ?hr ?_; (case ho => rfl); (case hg => rfl); (case hn => rfl); (case hr => first | (go_simp; done) | (go_simp; rfl)); intro w11 hw; have hg : w8.grownBy w11 (some go7) := (by rw [hw]; exact HP10.2); have hp_ : Kd.R (Kd.int .i64) 3 w11 w.heap.size (fun _ => True) (.slice (some ⟨go7, 0, none⟩) y147.length co7) y150 := (by rw [hw, Ny150.out]; exact HP10.1); clear HP10; have n0_ := Aside0.mk (hp_); have n1_ := Aside0.mk ((by rw [hw]; exact below_set (HB.out) GB7.out : Below w.heap.size w w11)); clear HO149; clear HB; have HO149 := n0_; have HB := n1_; clear n0_ n1_; clear hg hw hp_))
        go_loopg [5, 6] k (fun kq v5 v6 w' => ∃ (x5_1 : List Int) (x6_1 : Int), v6 = .int .i64 x6_1 ∧ Aside0 (spec_reWithin.l0 kq a0 a1 x5_1 x6_1 = some r) ∧ Aside0 (kq ≤ k) ∧ Aside0 (Kd.R (Kd.int .i64) 3 w' w.heap.size (fun _ => True) v5 x5_1) ∧ Aside0 (Below w.heap.size w w'))
        case atStart => exact ⟨(y150), (0), (by first | rfl | (simp; done) | (simp [*]; done)), H', ⟨Nat.le_refl _⟩, ⟨by (with_reducible repeat (first | apply Kd.R_alloc | apply Kd.R_drewN | apply Kd.R_drew)); exact HO149.out⟩, ⟨by repeat (first | (with_reducible first | exact HB.out | apply below_alloc | apply pw_below_drewN | apply below_drew1) | exact HB.out)⟩⟩
        case round =>
          clear H'
          try clear p2
          try clear c4
          try clear c4b0
          try clear c4b1
          try clear c5
          try clear c5b0
          try clear c5b1
          try clear c6
          try clear c6b0
          try clear c6b1
          try clear p6
          try clear c7
          try clear p7
          try clear q7
          try clear hx7
          try clear qi7
          try clear hf7
          try clear hx7_0
          try clear p7
          try clear q7
          obtain ⟨x5_1, x6_1, rfl, HA, HK1, HO_5, HB⟩ := hrel
          cases gk with
          | zero => exact absurd HA.out (by simp [spec_reWithin.l0])
          | succ k1 =>
            have H := HA.out
            clear HA
            simp only [spec_reWithin.l0] at H
            by_cases c12 : x6_1 < (wrap64 (2 * a0))
            · rw [if_pos c12] at H
              have c12b0 : decide (x6_1 < (wrap64 (2 * a0))) = true := decide_eq_true c12
              clear c12
              obtain ⟨ji13, hji13⟩ : ∃ j_ : Int, (wrap64 (a1 + 1)) = j_ := ⟨_, rfl⟩
              replace H : (if 0 ≤ (ji13) then (if (ji13 : Int).toNat ≤ 35184372088832 then (spec_reWithin.l1 k1 a0 a1 x6_1 (List.replicate (ji13 : Int).toNat 0) x5_1 (x5_1.length : Int) 0) else (none)) else (none)) = some r := by first | (rw [hji13] at H; exact H) | (simp only [hji13] at H ⊢; exact H)
              try clear hji3w
              have hji13w : (IntKind.i64.wrap (a1 + 1)) = ji13 := (i64_w _).trans hji13
              by_cases c14 : 0 ≤ (ji13)
              · rw [if_pos c14] at H
                have c14b0 := eq_true c14
                have c14b1 : decide (0 ≤ (ji13)) = true := decide_eq_true c14
                clear c14
                by_cases c15 : (ji13 : Int).toNat ≤ 35184372088832
                · rw [if_pos c15] at H
                  have c15b0 := eq_true c15
                  have c15b1 : decide ((ji13 : Int).toNat ≤ 35184372088832) = true := decide_eq_true c15
                  clear c15
                  obtain ⟨y152, hy152⟩ : ∃ y_ : List Int, y_ = (List.replicate (ji13 : Int).toNat 0) := ⟨_, rfl⟩
                  replace H : (spec_reWithin.l1 k1 a0 a1 x6_1 y152 x5_1 (x5_1.length : Int) 0) = some r := by first | (rw [hy152]; with_reducible exact H) | (have H2_ := (Option.bind_some _ _).symm.trans H; rw [hy152]; with_reducible exact H2_) | (have H2_ := (Option.bind_some _ _).symm.trans H; with_reducible exact H2_) | with_reducible exact H | (rw [hy152]; exact H) | exact H
                  have Ny152 := Aside0.mk hy152
                  clear hy152
                  have H' := Aside0.mk H
                  clear H
                  go_wp2_with (first | ((with_reducible refine gate_dst (N := 23) rfl ?_); refine Kd.R_make (Kd.int .i64) _ 3 rfl (N := 23) rfl 25 _ _ rfl ji13 rfl rfl Tryd.underlying25 (.int .i64 0) 8 info3 rfl (by decide) (by omega) 0 (ok := fun _ => True) (okp := fun _ => True) rfl (fun _ hk => hk) trivial (of_decide_eq_true (by first | (with_reducible assumption) | assumption)) (Nat.le_trans (Nat.mul_le_mul_right _ (of_decide_eq_true (by first | (with_reducible assumption) | assumption) : ji13.toNat ≤ 35184372088832)) (by omega)) (Below.refl _ _) (Nat.le_refl _) ?_; intro v153 w16 ho17 hb hg_ hnew_; clear hg_ hnew_; (first | rw [← Ny152.out] at ho17 | (simp only [Int.reduceToNat] at ho17; rw [← Ny152.out] at ho17)); have n0_ := Aside0.mk (Kd.R_elder' (by (with_reducible repeat (first | apply Kd.R_alloc | apply Kd.R_drewN | apply Kd.R_drew)); exact HO_5.out) (Kd.R_base ho17) hb); have n1_ := Aside0.mk (Kd.R_lower (Kd.R_new' ho17 (Kd.R_lt (by (with_reducible repeat (first | apply Kd.R_alloc | apply Kd.R_drewN | apply Kd.R_drew)); exact HO_5.out))) (below_size (by repeat (first | (with_reducible first | exact HB.out | apply below_alloc | apply pw_below_drewN | apply below_drew1) | exact HB.out)))); have n2_ := Aside0.mk (below_step (by repeat (first | (with_reducible first | exact HB.out | apply below_alloc | apply pw_below_drewN | apply below_drew1) | exact HB.out)) hb); clear HO_5; clear HB; have HO_5 := n0_; have HO154 := n1_; have HB := n2_; clear n0_ n1_ n2_; clear hb ho17; obtain ⟨Ao18, co18, eo18⟩ := Kd.R_slice HO_5.out; subst eo18))
                  go_loopg [26] k1 (fun kq v26 w' => ∃ (x7_2 : List Int) (x26_2 : Int), v26 = .int .i64 x26_2 ∧ Aside0 (spec_reWithin.l1 kq a0 a1 x6_1 x7_2 x5_1 (x5_1.length : Int) x26_2 = some r) ∧ Aside0 (kq ≤ k1) ∧ Aside0 (Kd.R (Kd.int .i64) 3 w' w.heap.size (fun k_ => some k_ ≠ ((.slice Ao18 x5_1.length co18) : Value).ownBlock) v153 x7_2) ∧ Aside0 (Kd.R (Kd.int .i64) 3 w' w.heap.size (fun k_ => some k_ ≠ (v153 : Value).ownBlock) (.slice Ao18 x5_1.length co18) x5_1) ∧ Aside0 (Below w.heap.size w w'))
                  case atStart => exact ⟨(y152), (0), (by first | rfl | (simp; done) | (simp [*]; done)), H', ⟨Nat.le_refl _⟩, ⟨by (with_reducible repeat (first | apply Kd.R_alloc | apply Kd.R_drewN | apply Kd.R_drew)); exact Kd.R_mono HO154.out (fun _ hk => hk.2)⟩, ⟨by (with_reducible repeat (first | apply Kd.R_alloc | apply Kd.R_drewN | apply Kd.R_drew)); exact Kd.R_mono HO_5.out (fun _ hk => hk.2)⟩, ⟨by repeat (first | (with_reducible first | exact HB.out | apply below_alloc | apply pw_below_drewN | apply below_drew1) | exact HB.out)⟩⟩
                  case round =>
                    clear H'
                    try clear c1
                    try clear p2
                    try clear c4
                    try clear c4b0
                    try clear c4b1
                    try clear c5
                    try clear c5b0
                    try clear c5b1
                    try clear c6
                    try clear c6b0
                    try clear c6b1
                    try clear p6
                    try clear c7
                    try clear p7
                    try clear q7
                    try clear hx7
                    try clear qi7
                    try clear hf7
                    try clear c12
                    try clear c12b0
                    try clear c14
                    try clear c14b0
                    try clear c14b1
                    try clear c15
                    try clear c15b0
                    try clear c15b1
                    try clear hx7_0
                    try clear p2
                    try clear p6
                    try clear p7
                    try clear q7
                    obtain ⟨x7_2, x26_2, rfl, HA, HK2, HO_7, HO_24, HB⟩ := hrel
                    cases gk with
                    | zero => exact absurd HA.out (by simp [spec_reWithin.l1])
                    | succ k2 =>
                      have H := HA.out
                      clear HA
                      simp only [spec_reWithin.l1] at H
                      by_cases c19 : x26_2 < (x5_1.length : Int)
                      · rw [if_pos c19] at H
                        have c19b0 : decide (x26_2 < (x5_1.length : Int)) = true := decide_eq_true c19
                        clear c19
                        by_cases c20 : 0 ≤ x26_2
                        · rw [if_pos c20] at H
                          have c20b0 : decide (0 ≤ x26_2) = true := decide_eq_true c20
                          clear c20
                          by_cases c21 : x26_2 < (x5_1.length : Int)
                          · rw [if_pos c21] at H
                            have c21b0 : decide (x26_2 < (x5_1.length : Int)) = true := decide_eq_true c21
                            clear c21
                            by_cases c22 : x26_2 > 0
                            · rw [if_pos c22] at H
                              have c22b0 : decide (0 < x26_2) = true := decide_eq_true c22
                              clear c22
                              obtain ⟨ji23, hji23⟩ : ∃ j_ : Int, (wrap64 (x26_2 - 1)) = j_ := ⟨_, rfl⟩
                              replace H : (if 0 ≤ (ji23) then (if (ji23) < (x7_2.length : Int) then ((some (x7_2.set ((ji23) : Int).toNat (wrap64 ((rd x7_2 (ji23)) + (rd x5_1 x26_2))) : List Int)).bind fun y157 => (if x26_2 < a1 then (if 0 ≤ (wrap64 (x26_2 + 1)) then (if (wrap64 (x26_2 + 1)) < (x7_2.length : Int) then (spec_reWithin.l1 k2 a0 a1 x6_1 (y157.set ((wrap64 (x26_2 + 1)) : Int).toNat (wrap64 ((rd y157 (wrap64 (x26_2 + 1))) + (rd x5_1 x26_2)))) x5_1 (x5_1.length : Int) (wrap64 (x26_2 + 1))) else (none)) else (none)) else (spec_reWithin.l1 k2 a0 a1 x6_1 y157 x5_1 (x5_1.length : Int) (wrap64 (x26_2 + 1))))) else (none)) else (none)) = some r := by first | (rw [hji23] at H; exact H) | (simp only [hji23] at H ⊢; exact H)
                              have hji23w : (IntKind.i64.wrap (x26_2 - 1)) = ji23 := (i64_w _).trans hji23
                              by_cases c24 : 0 ≤ (ji23)
                              · rw [if_pos c24] at H
                                have c24b0 : decide (0 ≤ (ji23)) = true := decide_eq_true c24
                                clear c24
                                by_cases c25 : (ji23) < (x7_2.length : Int)
                                · rw [if_pos c25] at H
                                  have c25b0 : decide ((ji23) < (x7_2.length : Int)) = true := decide_eq_true c25
                                  clear c25
                                  obtain ⟨y157, hy157⟩ : ∃ y_ : List Int, y_ = (x7_2.set ((ji23) : Int).toNat (wrap64 ((rd x7_2 (ji23)) + (rd x5_1 x26_2)))) := ⟨_, rfl⟩
                                  replace H : (if x26_2 < a1 then (if 0 ≤ (wrap64 (x26_2 + 1)) then (if (wrap64 (x26_2 + 1)) < (x7_2.length : Int) then (spec_reWithin.l1 k2 a0 a1 x6_1 (y157.set ((wrap64 (x26_2 + 1)) : Int).toNat (wrap64 ((rd y157 (wrap64 (x26_2 + 1))) + (rd x5_1 x26_2)))) x5_1 (x5_1.length : Int) (wrap64 (x26_2 + 1))) else (none)) else (none)) else (spec_reWithin.l1 k2 a0 a1 x6_1 y157 x5_1 (x5_1.length : Int) (wrap64 (x26_2 + 1)))) = some r := by first | (rw [hy157]; with_reducible exact H) | (have H2_ := (Option.bind_some _ _).symm.trans H; rw [hy157]; with_reducible exact H2_) | (have H2_ := (Option.bind_some _ _).symm.trans H; with_reducible exact H2_) | with_reducible exact H | (rw [hy157]; exact H) | exact H
                                  have Ny157 := Aside0.mk hy157
                                  clear hy157
                                  by_cases c27 : x26_2 < a1
                                  · rw [if_pos c27] at H
                                    have c27b0 : decide (x26_2 < a1) = true := decide_eq_true c27
                                    clear c27
                                    obtain ⟨ji28, hji28⟩ : ∃ j_ : Int, (wrap64 (x26_2 + 1)) = j_ := ⟨_, rfl⟩
                                    replace H : (if 0 ≤ (ji28) then (if (ji28) < (x7_2.length : Int) then (spec_reWithin.l1 k2 a0 a1 x6_1 (y157.set ((ji28) : Int).toNat (wrap64 ((rd y157 (ji28)) + (rd x5_1 x26_2)))) x5_1 (x5_1.length : Int) ji28) else (none)) else (none)) = some r := by first | (rw [hji28] at H; exact H) | (simp only [hji28] at H ⊢; exact H)
                                    have hji28w : (IntKind.i64.wrap (x26_2 + 1)) = ji28 := (i64_w _).trans hji28
                                    by_cases c29 : 0 ≤ (ji28)
                                    · rw [if_pos c29] at H
                                      have c29b0 : decide (0 ≤ (ji28)) = true := decide_eq_true c29
                                      clear c29
                                      by_cases c30 : (ji28) < (x7_2.length : Int)
                                      · rw [if_pos c30] at H
                                        have c30b0 : decide ((ji28) < (x7_2.length : Int)) = true := decide_eq_true c30
                                        clear c30
                                        obtain ⟨y159, hy159⟩ : ∃ y_ : List Int, y_ = (y157.set ((ji28) : Int).toNat (wrap64 ((rd y157 (ji28)) + (rd x5_1 x26_2)))) := ⟨_, rfl⟩
                                        replace H : (spec_reWithin.l1 k2 a0 a1 x6_1 y159 x5_1 (x5_1.length : Int) ji28) = some r := by first | (rw [hy159]; with_reducible exact H) | (have H2_ := (Option.bind_some _ _).symm.trans H; rw [hy159]; with_reducible exact H2_) | (have H2_ := (Option.bind_some _ _).symm.trans H; with_reducible exact H2_) | with_reducible exact H | (rw [hy159]; exact H) | exact H
                                        have Ny159 := Aside0.mk hy159
                                        clear hy159
                                        have H' := Aside0.mk H
                                        clear H
                                        have p155 : 0 ≤ (x26_2 : Int) := of_decide_eq_true (by first | (with_reducible assumption) | assumption)
                                        have q155 : x26_2 < (x5_1.length : Int) := of_decide_eq_true (by first | (with_reducible assumption) | assumption)
                                        obtain ⟨ad155, e155, hx155_0⟩ := Kd.at_int (Kd.R_reads' HO_24.out).2.2 x26_2 p155 q155
                                        cases e155
                                        replace p155 := eq_true p155
                                        replace q155 := eq_true q155
                                        obtain ⟨Ao32, co32, eo32⟩ := Kd.R_slice HO_7.out
                                        subst eo32
                                        have p156 : 0 ≤ ((ji23) : Int) := of_decide_eq_true (by first | (with_reducible assumption) | assumption)
                                        have q156 : (ji23) < (x7_2.length : Int) := of_decide_eq_true (by first | (with_reducible assumption) | assumption)
                                        obtain ⟨ad156, e156, hx156_0⟩ := Kd.at_int (Kd.R_reads' HO_7.out).2.2 (ji23) p156 q156
                                        cases e156
                                        replace p156 := eq_true p156
                                        replace q156 := eq_true q156
                                        have p26 : 0 ≤ ((ji23) : Int) := of_decide_eq_true (by first | (with_reducible assumption) | assumption)
                                        have q26 : ((ji23) : Int) < ((x7_2.length : Int) : Int) := of_decide_eq_true (by first | (with_reducible assumption) | assumption)
                                        obtain ⟨go26, co26, eo26, gb26, gl26, cl26, HG26⟩ := Kd.R_form HO_7.out (by omega)
                                        (first | cases eo26 | (injection eo26 with ea_ en_ ec_; (first | subst ea_ | (injection ea_ with ea_; subst ea_)); subst ec_; clear en_))
                                        have GB26 := Aside0.mk gb26
                                        have GG26 := Aside0.mk HG26
                                        clear gb26 gl26 HG26
                                        (first | simp only [add_plain] at hx156_0 | skip)
                                        obtain ⟨hx26_0, hf26_0⟩ := Kd.R_celln 0 HO_7.out ((ji23) : Int) p26 q26
                                        replace p26 := eq_true p26
                                        replace q26 := eq_true q26
                                        have HP33 := Kd.R_putg HO_7.out ((ji23) : Int) (wrap64 ((rd x7_2 (ji23)) + (rd x5_1 x26_2)))
                                        go_wp2_with (first | ((with_reducible refine gate_store (t := 3) (p := 40) rfl ?_); refine store_event (t := 3) (p := 40) (v := ?vo_w34) (w1 := (wr.setCell ⟨go26, ((ji23) : Int).toNat, none⟩ (.int .i64 (wrap64 ((rd x7_2 (ji23)) + (rd x5_1 x26_2)))))) ?hg ?ho ?hn ?hr ?_; (case ho => rfl); (case hg => rfl); (case hn => rfl); (case hr => first | (go_simp; done) | (go_simp; rfl)); intro w34 hw; have hg : wr.grownBy w34 (some go26) := (by rw [hw]; exact HP33.2); have hp_ : Kd.R (Kd.int .i64) 3 w34 w.heap.size (fun k_ => some k_ ≠ (.slice (some ad155) x5_1.length co18 : Value).ownBlock) (.slice (some ⟨go26, 0, none⟩) x7_2.length co32) y157 := (by rw [hw, Ny157.out]; exact HP33.1); clear HP33; have n0_ := Aside0.mk (hp_); have n1_ := Aside0.mk (Kd.R_after (v := (.slice (some ⟨go26, 0, none⟩) x7_2.length co32)) (v1 := (.slice (some ⟨go26, 0, none⟩) x7_2.length co32)) (ok := (fun _ => True)) (by (with_reducible repeat (first | apply Kd.R_alloc | apply Kd.R_drewN | apply Kd.R_drew)); exact Kd.R_mono HO_24.out (fun _ hk => ⟨trivial, hk⟩)) hg (.inl rfl)); have n2_ := Aside0.mk ((by rw [hw]; exact below_set (HB.out) GB26.out : Below w.heap.size w w34)); clear HO_7; clear HO_24; clear HB; have HO_7 := n0_; have HO_24 := n1_; have HB := n2_; clear n0_ n1_ n2_; clear hg hw hp_; have p158 : 0 ≤ ((ji28) : Int) := of_decide_eq_true (by first | (with_reducible assumption) | assumption); have q158 : (ji28) < (y157.length : Int) := (by have h_ : ((ji28) : Int) < ((x7_2.length : Int) : Int) := of_decide_eq_true (by first | (with_reducible assumption) | assumption); first | (have e_ := (Kd.R_reads' HO_7.out).1; omega) | simpa only [Ny157.out, List.length_set] using h_); have ql158 : (((ji28) : Int) < ((x7_2.length : Int) : Int)) = True := eq_true (of_decide_eq_true (by first | (with_reducible assumption) | assumption)); obtain ⟨ad158, e158, hx158_0⟩ := Kd.at_int (Kd.R_reads' HO_7.out).2.2 (ji28) p158 q158; obtain rfl : (⟨go26, 0, none⟩ : Addr) = ad158 := (by injection e158); (first | simp only [add_plain] at hx158_0 | simp only [add_at] at hx158_0 | simp only [Addr.add, Nat.zero_add] at hx158_0 | skip); replace p158 := eq_true p158; replace q158 := eq_true q158; have p31 : 0 ≤ ((ji28) : Int) := of_decide_eq_true (by first | (with_reducible assumption) | assumption); have q31 : ((ji28) : Int) < ((x7_2.length : Int) : Int) := of_decide_eq_true (by first | (with_reducible assumption) | assumption); obtain ⟨hx31_0, hf31_0⟩ := Kd.R_celln 0 HO_7.out ((ji28) : Int) p31 q31; replace p31 := eq_true p31; replace q31 := eq_true q31; obtain ⟨hy35_, hz35_⟩ := Kd.R_celln 0 HO_7.out ((ji28) : Int) (of_decide_eq_true (by first | (with_reducible assumption) | assumption)) (of_decide_eq_true (by first | (with_reducible assumption) | assumption)); have HP35 := Kd.R_putg HO_7.out ((ji28) : Int) (wrap64 ((rd y157 (ji28)) + (rd x5_1 x26_2)))) | ((with_reducible refine gate_store (t := 3) (p := 51) rfl ?_); refine store_event (t := 3) (p := 51) (v := ?vo_w36) (w1 := (w34.setCell ⟨go26, ((ji28) : Int).toNat, none⟩ (.int .i64 (wrap64 ((rd y157 (ji28)) + (rd x5_1 x26_2)))))) ?hg ?ho ?hn ?hr ?_; (case ho => rfl); (case hg => rfl); (case hn => rfl); (case hr => first | (go_simp; done) | (go_simp; rfl)); intro w36 hw; have hg : w34.grownBy w36 (some go26) := (by rw [hw]; exact HP35.2); have hp_ : Kd.R (Kd.int .i64) 3 w36 w.heap.size (fun k_ => some k_ ≠ (.slice (some ad155) x5_1.length co18 : Value).ownBlock) (.slice (some ⟨go26, 0, none⟩) x7_2.length co32) y159 := (by rw [hw, Ny159.out]; exact HP35.1); clear HP35; have n0_ := Aside0.mk (hp_); have n1_ := Aside0.mk (Kd.R_after (v := (.slice (some ⟨go26, 0, none⟩) x7_2.length co32)) (v1 := (.slice (some ⟨go26, 0, none⟩) x7_2.length co32)) (ok := (fun _ => True)) (by (with_reducible repeat (first | apply Kd.R_alloc | apply Kd.R_drewN | apply Kd.R_drew)); exact HO_24.out) hg (.inl rfl)); have n2_ := Aside0.mk ((by rw [hw]; exact below_set (HB.out) GB26.out : Below w.heap.size w w36)); clear HO_7; clear HO_24; clear HB; have HO_7 := n0_; have HO_24 := n1_; have HB := n2_; clear n0_ n1_ n2_; clear hg hw hp_))
                                        go_roundg k2
                                        case measure => have := HK1.out; have := HK2.out; omega
                                        case rel => exact ⟨(y159), (ji28), (by first | rfl | (simp; done) | (simp only [← hji28] <;> (first | rfl | simp)) | (simp [*]; done)), H', ⟨by have := HK1.out; have := HK2.out; omega⟩, ⟨by (with_reducible repeat (first | apply Kd.R_alloc | apply Kd.R_drewN | apply Kd.R_drew)); exact HO_7.out⟩, ⟨by (with_reducible repeat (first | apply Kd.R_alloc | apply Kd.R_drewN | apply Kd.R_drew)); exact Kd.R_mono HO_24.out (fun _ hk => hk.2)⟩, ⟨by repeat (first | (with_reducible first | exact HB.out | apply below_alloc | apply pw_below_drewN | apply below_drew1) | exact HB.out)⟩⟩
                                      · rw [if_neg c30] at H
                                        exact absurd H (by simp)
                                    · rw [if_neg c29] at H
                                      exact absurd H (by simp)
                                  · rw [if_neg c27] at H
                                    have c27b0 : decide (x26_2 < a1) = false := decide_eq_false c27
                                    clear c27
                                    have H' := Aside0.mk H
                                    clear H
                                    have p155 : 0 ≤ (x26_2 : Int) := of_decide_eq_true (by first | (with_reducible assumption) | assumption)
                                    have q155 : x26_2 < (x5_1.length : Int) := of_decide_eq_true (by first | (with_reducible assumption) | assumption)
                                    obtain ⟨ad155, e155, hx155_0⟩ := Kd.at_int (Kd.R_reads' HO_24.out).2.2 x26_2 p155 q155
                                    cases e155
                                    replace p155 := eq_true p155
                                    replace q155 := eq_true q155
                                    obtain ⟨Ao37, co37, eo37⟩ := Kd.R_slice HO_7.out
                                    subst eo37
                                    have p156 : 0 ≤ ((ji23) : Int) := of_decide_eq_true (by first | (with_reducible assumption) | assumption)
                                    have q156 : (ji23) < (x7_2.length : Int) := of_decide_eq_true (by first | (with_reducible assumption) | assumption)
                                    obtain ⟨ad156, e156, hx156_0⟩ := Kd.at_int (Kd.R_reads' HO_7.out).2.2 (ji23) p156 q156
                                    cases e156
                                    replace p156 := eq_true p156
                                    replace q156 := eq_true q156
                                    have p26 : 0 ≤ ((ji23) : Int) := of_decide_eq_true (by first | (with_reducible assumption) | assumption)
                                    have q26 : ((ji23) : Int) < ((x7_2.length : Int) : Int) := of_decide_eq_true (by first | (with_reducible assumption) | assumption)
                                    obtain ⟨go26, co26, eo26, gb26, gl26, cl26, HG26⟩ := Kd.R_form HO_7.out (by omega)
                                    (first | cases eo26 | (injection eo26 with ea_ en_ ec_; (first | subst ea_ | (injection ea_ with ea_; subst ea_)); subst ec_; clear en_))
                                    have GB26 := Aside0.mk gb26
                                    have GG26 := Aside0.mk HG26
                                    clear gb26 gl26 HG26
                                    (first | simp only [add_plain] at hx156_0 | skip)
                                    obtain ⟨hx26_0, hf26_0⟩ := Kd.R_celln 0 HO_7.out ((ji23) : Int) p26 q26
                                    replace p26 := eq_true p26
                                    replace q26 := eq_true q26
                                    have HP38 := Kd.R_putg HO_7.out ((ji23) : Int) (wrap64 ((rd x7_2 (ji23)) + (rd x5_1 x26_2)))
                                    go_wp2_with (first | ((with_reducible refine gate_store (t := 3) (p := 40) rfl ?_); refine store_event (t := 3) (p := 40) (v := ?vo_w39) (w1 := (wr.setCell ⟨go26, ((ji23) : Int).toNat, none⟩ (.int .i64 (wrap64 ((rd x7_2 (ji23)) + (rd x5_1 x26_2)))))) ?hg ?ho ?hn ?hr ?_; (case ho => rfl); (case hg => rfl); (case hn => rfl); (case hr => first | (go_simp; done) | (go_simp; rfl)); intro w39 hw; have hg : wr.grownBy w39 (some go26) := (by rw [hw]; exact HP38.2); have hp_ : Kd.R (Kd.int .i64) 3 w39 w.heap.size (fun k_ => some k_ ≠ (.slice (some ad155) x5_1.length co18 : Value).ownBlock) (.slice (some ⟨go26, 0, none⟩) x7_2.length co37) y157 := (by rw [hw, Ny157.out]; exact HP38.1); clear HP38; have n0_ := Aside0.mk (hp_); have n1_ := Aside0.mk (Kd.R_after (v := (.slice (some ⟨go26, 0, none⟩) x7_2.length co37)) (v1 := (.slice (some ⟨go26, 0, none⟩) x7_2.length co37)) (ok := (fun _ => True)) (by (with_reducible repeat (first | apply Kd.R_alloc | apply Kd.R_drewN | apply Kd.R_drew)); exact Kd.R_mono HO_24.out (fun _ hk => ⟨trivial, hk⟩)) hg (.inl rfl)); have n2_ := Aside0.mk ((by rw [hw]; exact below_set (HB.out) GB26.out : Below w.heap.size w w39)); clear HO_7; clear HO_24; clear HB; have HO_7 := n0_; have HO_24 := n1_; have HB := n2_; clear n0_ n1_ n2_; clear hg hw hp_))
                                    go_roundg k2
                                    case measure => have := HK1.out; have := HK2.out; omega
                                    case rel => exact ⟨(y157), (wrap64 (x26_2 + 1)), (by first | rfl | (simp; done) | (simp [*]; done)), H', ⟨by have := HK1.out; have := HK2.out; omega⟩, ⟨by (with_reducible repeat (first | apply Kd.R_alloc | apply Kd.R_drewN | apply Kd.R_drew)); exact HO_7.out⟩, ⟨by (with_reducible repeat (first | apply Kd.R_alloc | apply Kd.R_drewN | apply Kd.R_drew)); exact Kd.R_mono HO_24.out (fun _ hk => hk.2)⟩, ⟨by repeat (first | (with_reducible first | exact HB.out | apply below_alloc | apply pw_below_drewN | apply below_drew1) | exact HB.out)⟩⟩
                                · rw [if_neg c25] at H
                                  exact absurd H (by simp)
                              · rw [if_neg c24] at H
                                exact absurd H (by simp)
                            · rw [if_neg c22] at H
                              have c22b0 : decide (0 < x26_2) = false := decide_eq_false c22
                              clear c22
                              by_cases c40 : x26_2 < a1
                              · rw [if_pos c40] at H
                                have c40b0 : decide (x26_2 < a1) = true := decide_eq_true c40
                                clear c40
                                obtain ⟨ji41, hji41⟩ : ∃ j_ : Int, (wrap64 (x26_2 + 1)) = j_ := ⟨_, rfl⟩
                                replace H : (if 0 ≤ (ji41) then (if (ji41) < (x7_2.length : Int) then (spec_reWithin.l1 k2 a0 a1 x6_1 (x7_2.set ((ji41) : Int).toNat (wrap64 ((rd x7_2 (ji41)) + (rd x5_1 x26_2)))) x5_1 (x5_1.length : Int) ji41) else (none)) else (none)) = some r := by first | (rw [hji41] at H; exact H) | (simp only [hji41] at H ⊢; exact H)
                                try clear hji28w
                                have hji41w : (IntKind.i64.wrap (x26_2 + 1)) = ji41 := (i64_w _).trans hji41
                                by_cases c42 : 0 ≤ (ji41)
                                · rw [if_pos c42] at H
                                  have c42b0 : decide (0 ≤ (ji41)) = true := decide_eq_true c42
                                  clear c42
                                  by_cases c43 : (ji41) < (x7_2.length : Int)
                                  · rw [if_pos c43] at H
                                    have c43b0 : decide ((ji41) < (x7_2.length : Int)) = true := decide_eq_true c43
                                    clear c43
                                    obtain ⟨y161, hy161⟩ : ∃ y_ : List Int, y_ = (x7_2.set ((ji41) : Int).toNat (wrap64 ((rd x7_2 (ji41)) + (rd x5_1 x26_2)))) := ⟨_, rfl⟩
                                    replace H : (spec_reWithin.l1 k2 a0 a1 x6_1 y161 x5_1 (x5_1.length : Int) ji41) = some r := by first | (rw [hy161]; with_reducible exact H) | (have H2_ := (Option.bind_some _ _).symm.trans H; rw [hy161]; with_reducible exact H2_) | (have H2_ := (Option.bind_some _ _).symm.trans H; with_reducible exact H2_) | with_reducible exact H | (rw [hy161]; exact H) | exact H
                                    have Ny161 := Aside0.mk hy161
                                    clear hy161
                                    have H' := Aside0.mk H
                                    clear H
                                    have p155 : 0 ≤ (x26_2 : Int) := of_decide_eq_true (by first | (with_reducible assumption) | assumption)
                                    have q155 : x26_2 < (x5_1.length : Int) := of_decide_eq_true (by first | (with_reducible assumption) | assumption)
                                    obtain ⟨ad155, e155, hx155_0⟩ := Kd.at_int (Kd.R_reads' HO_24.out).2.2 x26_2 p155 q155
                                    cases e155
                                    replace p155 := eq_true p155
                                    replace q155 := eq_true q155
                                    obtain ⟨Ao45, co45, eo45⟩ := Kd.R_slice HO_7.out
                                    subst eo45
                                    have p160 : 0 ≤ ((ji41) : Int) := of_decide_eq_true (by first | (with_reducible assumption) | assumption)
                                    have q160 : (ji41) < (x7_2.length : Int) := of_decide_eq_true (by first | (with_reducible assumption) | assumption)
                                    obtain ⟨ad160, e160, hx160_0⟩ := Kd.at_int (Kd.R_reads' HO_7.out).2.2 (ji41) p160 q160
                                    cases e160
                                    replace p160 := eq_true p160
                                    replace q160 := eq_true q160
                                    have p44 : 0 ≤ ((ji41) : Int) := of_decide_eq_true (by first | (with_reducible assumption) | assumption)
                                    have q44 : ((ji41) : Int) < ((x7_2.length : Int) : Int) := of_decide_eq_true (by first | (with_reducible assumption) | assumption)
                                    obtain ⟨go44, co44, eo44, gb44, gl44, cl44, HG44⟩ := Kd.R_form HO_7.out (by omega)
                                    (first | cases eo44 | (injection eo44 with ea_ en_ ec_; (first | subst ea_ | (injection ea_ with ea_; subst ea_)); subst ec_; clear en_))
                                    have GB44 := Aside0.mk gb44
                                    have GG44 := Aside0.mk HG44
                                    clear gb44 gl44 HG44
                                    (first | simp only [add_plain] at hx160_0 | skip)
                                    obtain ⟨hx44_0, hf44_0⟩ := Kd.R_celln 0 HO_7.out ((ji41) : Int) p44 q44
                                    replace p44 := eq_true p44
                                    replace q44 := eq_true q44
                                    have HP46 := Kd.R_putg HO_7.out ((ji41) : Int) (wrap64 ((rd x7_2 (ji41)) + (rd x5_1 x26_2)))
                                    go_wp2_with (first | ((with_reducible refine gate_store (t := 3) (p := 51) rfl ?_); refine store_event (t := 3) (p := 51) (v := ?vo_w47) (w1 := (wr.setCell ⟨go44, ((ji41) : Int).toNat, none⟩ (.int .i64 (wrap64 ((rd x7_2 (ji41)) + (rd x5_1 x26_2)))))) ?hg ?ho ?hn ?hr ?_; (case ho => rfl); (case hg => rfl); (case hn => rfl); (case hr => first | (go_simp; done) | (go_simp; rfl)); intro w47 hw; have hg : wr.grownBy w47 (some go44) := (by rw [hw]; exact HP46.2); have hp_ : Kd.R (Kd.int .i64) 3 w47 w.heap.size (fun k_ => some k_ ≠ (.slice (some ad155) x5_1.length co18 : Value).ownBlock) (.slice (some ⟨go44, 0, none⟩) x7_2.length co45) y161 := (by rw [hw, Ny161.out]; exact HP46.1); clear HP46; have n0_ := Aside0.mk (hp_); have n1_ := Aside0.mk (Kd.R_after (v := (.slice (some ⟨go44, 0, none⟩) x7_2.length co45)) (v1 := (.slice (some ⟨go44, 0, none⟩) x7_2.length co45)) (ok := (fun _ => True)) (by (with_reducible repeat (first | apply Kd.R_alloc | apply Kd.R_drewN | apply Kd.R_drew)); exact Kd.R_mono HO_24.out (fun _ hk => ⟨trivial, hk⟩)) hg (.inl rfl)); have n2_ := Aside0.mk ((by rw [hw]; exact below_set (HB.out) GB44.out : Below w.heap.size w w47)); clear HO_7; clear HO_24; clear HB; have HO_7 := n0_; have HO_24 := n1_; have HB := n2_; clear n0_ n1_ n2_; clear hg hw hp_))
                                    go_roundg k2
                                    case measure => have := HK1.out; have := HK2.out; omega
                                    case rel => exact ⟨(y161), (ji41), (by first | rfl | (simp; done) | (simp only [← hji41] <;> (first | rfl | simp)) | (simp [*]; done)), H', ⟨by have := HK1.out; have := HK2.out; omega⟩, ⟨by (with_reducible repeat (first | apply Kd.R_alloc | apply Kd.R_drewN | apply Kd.R_drew)); exact HO_7.out⟩, ⟨by (with_reducible repeat (first | apply Kd.R_alloc | apply Kd.R_drewN | apply Kd.R_drew)); exact Kd.R_mono HO_24.out (fun _ hk => hk.2)⟩, ⟨by repeat (first | (with_reducible first | exact HB.out | apply below_alloc | apply pw_below_drewN | apply below_drew1) | exact HB.out)⟩⟩
                                  · rw [if_neg c43] at H
                                    exact absurd H (by simp)
                                · rw [if_neg c42] at H
                                  exact absurd H (by simp)
                              · rw [if_neg c40] at H
                                have c40b0 : decide (x26_2 < a1) = false := decide_eq_false c40
                                clear c40
                                have H' := Aside0.mk H
                                clear H
                                have p155 : 0 ≤ (x26_2 : Int) := of_decide_eq_true (by first | (with_reducible assumption) | assumption)
                                have q155 : x26_2 < (x5_1.length : Int) := of_decide_eq_true (by first | (with_reducible assumption) | assumption)
                                obtain ⟨ad155, e155, hx155_0⟩ := Kd.at_int (Kd.R_reads' HO_24.out).2.2 x26_2 p155 q155
                                cases e155
                                replace p155 := eq_true p155
                                replace q155 := eq_true q155
                                go_wp2
                                go_roundg k2
                                case measure => have := HK1.out; have := HK2.out; omega
                                case rel => exact ⟨(x7_2), (wrap64 (x26_2 + 1)), (by first | rfl | (simp; done) | (simp [*]; done)), H', ⟨by have := HK1.out; have := HK2.out; omega⟩, ⟨by (with_reducible repeat (first | apply Kd.R_alloc | apply Kd.R_drewN | apply Kd.R_drew)); exact HO_7.out⟩, ⟨by (with_reducible repeat (first | apply Kd.R_alloc | apply Kd.R_drewN | apply Kd.R_drew)); exact HO_24.out⟩, ⟨by repeat (first | (with_reducible first | exact HB.out | apply below_alloc | apply pw_below_drewN | apply below_drew1) | exact HB.out)⟩⟩
                          · rw [if_neg c21] at H
                            exact absurd H (by simp)
                        · rw [if_neg c20] at H
                          exact absurd H (by simp)
                      · rw [if_neg c19] at H
                        have c19b0 : decide (x26_2 < (x5_1.length : Int)) = false := decide_eq_false c19
                        clear c19
                        have H' := Aside0.mk H
                        clear H
                        go_wp2
                        go_roundg k2
                        case measure => have := HK1.out; have := HK2.out; omega
                        case rel => exact ⟨(x7_2), (wrap64 (x6_1 + 1)), (by first | rfl | (simp; done) | (simp [*]; done)), H', ⟨by have := HK1.out; have := HK2.out; omega⟩, ⟨by (with_reducible repeat (first | apply Kd.R_alloc | apply Kd.R_drewN | apply Kd.R_drew)); exact Kd.R_mono HO_7.out (fun _ hk => trivial)⟩, ⟨by repeat (first | (with_reducible first | exact HB.out | apply below_alloc | apply pw_below_drewN | apply below_drew1) | exact HB.out)⟩⟩
                · rw [if_neg c15] at H
                  exact absurd H (by simp)
              · rw [if_neg c14] at H
                exact absurd H (by simp)
            · rw [if_neg c12] at H
              have c12b0 : decide (x6_1 < (wrap64 (2 * a0))) = false := decide_eq_false c12
              clear c12
              by_cases c48 : 0 < (x5_1.length : Int)
              · rw [if_pos c48] at H
                have c48b0 : decide (0 < (x5_1.length : Int)) = true := decide_eq_true c48
                have c48b1 : decide (0 < x5_1.length) = true := decide_eq_true (by omega)
                clear c48
                obtain rfl := Option.some.inj H
                obtain ⟨Ao49, co49, eo49⟩ := Kd.R_slice HO_5.out
                subst eo49
                have p151 : 0 ≤ (0 : Int) := (by omega)
                have q151 : 0 < (x5_1.length : Int) := of_decide_eq_true (by first | (with_reducible assumption) | assumption)
                obtain ⟨ad151, e151, hx151_0⟩ := Kd.at_int (Kd.R_reads' HO_5.out).2.2 0 p151 q151
                cases e151
                have qi151 : (0 < x5_1.length) = True := eq_true (by omega)
                (try rw [show ((0 : Int)).toNat = 0 from rfl] at hx151_0)
                (try rw [Addr.add_zero'] at hx151_0)
                replace p151 := eq_true p151
                replace q151 := eq_true q151
                go_wp2
                go_ret
                exact ⟨by first | rfl | (simp [errW_none, errW_some] <;> rfl) | (simp only [← hji3]; first | rfl | (simp [errW_none, errW_some] <;> rfl)) | (simp [*, errW_none, errW_some] <;> rfl), by repeat (first | (with_reducible first | exact HB.out | apply below_alloc | apply pw_below_drewN | apply below_drew1) | exact HB.out)⟩
              · rw [if_neg c48] at H
                exact absurd H (by simp)
      · rw [if_neg c6] at H
        exact absurd H (by simp)
    · rw [if_neg c5] at H
      exact absurd H (by simp)
  · rw [if_neg c4] at H
    exact absurd H (by simp)

/-! ### spec_reHeights: function 41 -/
def spec_reHeights.l0 : Nat → Int → List Int → Int → Int → Int → Option (List Int)
  | 0, _, _, _, _, _ => none
  | k + 1, x0, x3, x4, x11, x12 => if x12 < x11 then ((spec_reWithin.f k x0 x12).bind fun t165 => (if 0 ≤ x12 then (if x12 < (x3.length : Int) then (spec_reHeights.l0 k x0 (x3.set (x12 : Int).toNat (wrap64 (t165 - x4))) t165 x11 (wrap64 (x12 + 1))) else (none)) else (none))) else (some x3)
def spec_reHeights.f (k : Nat) (a0 : Int) : Option (List Int) := if 0 ≤ (wrap64 (a0 + 1)) then (if (wrap64 (a0 + 1) : Int).toNat ≤ 35184372088832 then ((some (List.replicate (wrap64 (a0 + 1) : Int).toNat 0 : List Int)).bind fun y162 => (spec_reHeights.l0 k a0 y162 0 (y162.length : Int) 0)) else (none)) else (none)
theorem spec_reHeights.mono_l : ∀ k, (∀ y0 y1 y2 y3 y4, LeO (spec_reHeights.l0 k y0 y1 y2 y3 y4) (spec_reHeights.l0 (k + 1) y0 y1 y2 y3 y4))
  | 0 => fun _ _ _ _ _ r h => by simp [spec_reHeights.l0] at h
  | k + 1 => by
    have ih0 := spec_reHeights.mono_l k
    · intro y0 y1 y2 y3 y4
      unfold spec_reHeights.l0
      repeat' first
      | (with_reducible exact ih0 _ _ _ _ _)
      | (with_reducible exact spec_reWithin.mono _ _ _)
      | (with_reducible exact LeO.refl _)
      | (with_reducible exact LeO.none _)
      | (with_reducible refine LeO.ite ?_ ?_)
      | (with_reducible refine LeO.bind ?_ (fun _ => ?_))
      | exact ih0 _ _ _ _ _
      | exact spec_reWithin.mono _ _ _
      | exact LeO.none _
      | refine LeO.ite ?_ ?_
      | refine LeO.bind ?_ (fun _ => ?_)
theorem spec_reHeights.mono : ∀ a0 k, LeO (spec_reHeights.f k a0) (spec_reHeights.f (k + 1) a0) := by
  intro a0 k
  have ih0 := spec_reHeights.mono_l k
  unfold spec_reHeights.f
  repeat' first
      | (with_reducible exact ih0 _ _ _ _ _)
      | (with_reducible exact spec_reWithin.mono _ _ _)
      | (with_reducible exact LeO.refl _)
      | (with_reducible exact LeO.none _)
      | (with_reducible refine LeO.ite ?_ ?_)
      | (with_reducible refine LeO.bind ?_ (fun _ => ?_))
      | exact ih0 _ _ _ _ _
      | exact spec_reWithin.mono _ _ _
      | exact LeO.none _
      | refine LeO.ite ?_ ?_
      | refine LeO.bind ?_ (fun _ => ?_)
set_option maxHeartbeats 8000000 in
set_option maxRecDepth 100000 in
theorem spec_reHeights.calls (k : Nat) (a0 : Int) (r : List Int) (w : World) (h : spec_reHeights.f k a0 = some r) :
    Calls Tryd.prog 41 #[.int .i64 a0] w fun e w' => ∃ v0_ : Value, e = .returned (v0_) ∧ Kd.R (Kd.int .i64) 3 w' w.heap.size (fun _ => True) v0_ r ∧ Below w.heap.size w w' := by
  have HB := Aside0.mk (Below.refl w.heap.size w)
  have H : (if 0 ≤ (wrap64 (a0 + 1)) then (if (wrap64 (a0 + 1) : Int).toNat ≤ 35184372088832 then ((some (List.replicate (wrap64 (a0 + 1) : Int).toNat 0 : List Int)).bind fun y162 => (spec_reHeights.l0 k a0 y162 0 (y162.length : Int) 0)) else (none)) else (none)) = some r := h
  clear h
  obtain ⟨ji2, hji2⟩ : ∃ j_ : Int, (wrap64 (a0 + 1)) = j_ := ⟨_, rfl⟩
  replace H : (if 0 ≤ (ji2) then (if (ji2 : Int).toNat ≤ 35184372088832 then ((some (List.replicate (ji2 : Int).toNat 0 : List Int)).bind fun y162 => (spec_reHeights.l0 k a0 y162 0 (y162.length : Int) 0)) else (none)) else (none)) = some r := by first | (rw [hji2] at H; exact H) | (simp only [hji2] at H ⊢; exact H)
  have hji2w : (IntKind.i64.wrap (a0 + 1)) = ji2 := (i64_w _).trans hji2
  by_cases c3 : 0 ≤ (ji2)
  · rw [if_pos c3] at H
    have c3b0 := eq_true c3
    have c3b1 : decide (0 ≤ (ji2)) = true := decide_eq_true c3
    clear c3
    by_cases c4 : (ji2 : Int).toNat ≤ 35184372088832
    · rw [if_pos c4] at H
      have c4b0 := eq_true c4
      have c4b1 : decide ((ji2 : Int).toNat ≤ 35184372088832) = true := decide_eq_true c4
      clear c4
      obtain ⟨y162, hy162⟩ : ∃ y_ : List Int, y_ = (List.replicate (ji2 : Int).toNat 0) := ⟨_, rfl⟩
      replace H : (spec_reHeights.l0 k a0 y162 0 (y162.length : Int) 0) = some r := by first | (rw [hy162]; with_reducible exact H) | (have H2_ := (Option.bind_some _ _).symm.trans H; rw [hy162]; with_reducible exact H2_) | (have H2_ := (Option.bind_some _ _).symm.trans H; with_reducible exact H2_) | with_reducible exact H | (rw [hy162]; exact H) | exact H
      have Ny162 := Aside0.mk hy162
      clear hy162
      have H' := Aside0.mk H
      clear H
      go_enter Tryd.func41, Tryd.ntmps41
      go_wp2_with (first | ((with_reducible refine gate_dst (N := 9) rfl ?_); refine Kd.R_make (Kd.int .i64) _ 3 rfl (N := 9) rfl 25 _ _ rfl ji2 rfl rfl Tryd.underlying25 (.int .i64 0) 8 info3 rfl (by decide) (by omega) 0 (ok := fun _ => True) (okp := fun _ => True) rfl (fun _ hk => hk) trivial (of_decide_eq_true (by first | (with_reducible assumption) | assumption)) (Nat.le_trans (Nat.mul_le_mul_right _ (of_decide_eq_true (by first | (with_reducible assumption) | assumption) : ji2.toNat ≤ 35184372088832)) (by omega)) (Below.refl _ _) (Nat.le_refl _) ?_; intro v163 w5 ho6 hb hg_ hnew_; clear hg_ hnew_; (first | rw [← Ny162.out] at ho6 | (simp only [Int.reduceToNat] at ho6; rw [← Ny162.out] at ho6)); have n0_ := Aside0.mk (Kd.R_lower ho6 (below_size (by repeat (first | (with_reducible first | exact HB.out | apply below_alloc | apply pw_below_drewN | apply below_drew1) | exact HB.out)))); have n1_ := Aside0.mk (below_step (by repeat (first | (with_reducible first | exact HB.out | apply below_alloc | apply pw_below_drewN | apply below_drew1) | exact HB.out)) hb); clear HB; have HO164 := n0_; have HB := n1_; clear n0_ n1_; clear hb ho6; obtain ⟨Ao7, co7, eo7⟩ := Kd.R_slice HO164.out; subst eo7))
      go_loopg [4, 12] k (fun kq v4 v12 w' => ∃ (x3_1 : List Int) (x4_1 : Int) (x12_1 : Int), v4 = .int .i64 x4_1 ∧ v12 = .int .i64 x12_1 ∧ Aside0 (spec_reHeights.l0 kq a0 x3_1 x4_1 (y162.length : Int) x12_1 = some r) ∧ Aside0 (kq ≤ k) ∧ Aside0 (Kd.R (Kd.int .i64) 3 w' w.heap.size (fun _ => True) (.slice Ao7 y162.length co7) x3_1) ∧ Aside0 (Below w.heap.size w w'))
      case atStart => exact ⟨(y162), (0), (0), (by first | rfl | (simp; done) | (simp [*]; done)), (by first | rfl | (simp; done) | (simp [*]; done)), H', ⟨Nat.le_refl _⟩, ⟨by (with_reducible repeat (first | apply Kd.R_alloc | apply Kd.R_drewN | apply Kd.R_drew)); exact HO164.out⟩, ⟨by repeat (first | (with_reducible first | exact HB.out | apply below_alloc | apply pw_below_drewN | apply below_drew1) | exact HB.out)⟩⟩
      case round =>
        clear H'
        try clear p2
        try clear c3
        try clear c3b0
        try clear c3b1
        try clear c4
        try clear c4b0
        try clear c4b1
        try clear p6
        obtain ⟨x3_1, x4_1, x12_1, rfl, rfl, HA, HK1, HO_3, HB⟩ := hrel
        have hl3_1 := (Kd.R_reads' HO_3.out).1
        rw [hl3_1] at HO_3
        (try simp only [hl3_1])
        cases gk with
        | zero => exact absurd HA.out (by simp [spec_reHeights.l0])
        | succ k1 =>
          have H := HA.out
          clear HA
          simp only [spec_reHeights.l0] at H
          by_cases c8 : x12_1 < (y162.length : Int)
          · rw [if_pos c8] at H
            have c8b0 : decide (x12_1 < (y162.length : Int)) = true := decide_eq_true c8
            (try (have c8b0h := c8b0; simp only [hl3_1] at c8b0h))
            clear c8
            replace H := Option.bind_eq_some_iff.mp H
            obtain ⟨t165, A90, H⟩ := H
            replace H : (if 0 ≤ x12_1 then (if x12_1 < (x3_1.length : Int) then (spec_reHeights.l0 k1 a0 (x3_1.set (x12_1 : Int).toNat (wrap64 (t165 - x4_1))) t165 (y162.length : Int) (wrap64 (x12_1 + 1))) else (none)) else (none)) = some r := H
            have A9 := Aside0.mk A90
            clear A90
            by_cases c10 : 0 ≤ x12_1
            · rw [if_pos c10] at H
              have c10b0 : decide (0 ≤ x12_1) = true := decide_eq_true c10
              clear c10
              by_cases c11 : x12_1 < (x3_1.length : Int)
              · rw [if_pos c11] at H
                have c11b0 : decide (x12_1 < (x3_1.length : Int)) = true := decide_eq_true c11
                (try (have c11b0h := c11b0; simp only [hl3_1] at c11b0h))
                clear c11
                obtain ⟨y166, hy166⟩ : ∃ y_ : List Int, y_ = (x3_1.set (x12_1 : Int).toNat (wrap64 (t165 - x4_1))) := ⟨_, rfl⟩
                replace H : (spec_reHeights.l0 k1 a0 y166 t165 (y162.length : Int) (wrap64 (x12_1 + 1))) = some r := by first | (rw [hy166]; with_reducible exact H) | (have H2_ := (Option.bind_some _ _).symm.trans H; rw [hy166]; with_reducible exact H2_) | (have H2_ := (Option.bind_some _ _).symm.trans H; with_reducible exact H2_) | with_reducible exact H | (rw [hy166]; exact H) | exact H
                have Ny166 := Aside0.mk hy166
                clear hy166
                have H' := Aside0.mk H
                clear H
                go_wp2_with (first | ((with_reducible refine gate_callee (f := 71) rfl ?_); refine goesL_ (some 17) rfl rfl Tryd.func71 (by kernel_rfl) rfl #[.int .i64 a0, .int .i64 x12_1] rfl (by (try simp only [List.map_toArray, List.map_cons, List.map_nil]); first | done | rfl | (simp only [List.length_drop, List.length_take]; rfl)) ?_; (with_reducible refine (spec_reWithin.calls k1 a0 x12_1 t165 _ A9.out).mono ?_); rintro e w13 ⟨rfl, hb⟩; refine ⟨_, rfl, ?_⟩; have n0_ := Aside0.mk (Kd.R_below (by (with_reducible repeat (first | apply Kd.R_alloc | apply Kd.R_drewN | apply Kd.R_drew)); exact HO_3.out) hb); have n1_ := Aside0.mk (below_step (by repeat (first | (with_reducible first | exact HB.out | apply below_alloc | apply pw_below_drewN | apply below_drew1) | exact HB.out)) hb); clear HO_3; clear HB; have HO_3 := n0_; have HB := n1_; clear n0_ n1_; (try clear hb); (try clear hb2); (try clear hk); (try clear hi); have p12 : 0 ≤ (x12_1 : Int) := of_decide_eq_true (by first | (with_reducible assumption) | assumption); have q12 : (x12_1 : Int) < ((x3_1.length : Int) : Int) := of_decide_eq_true (by first | (with_reducible assumption) | assumption); obtain ⟨go12, co12, eo12, gb12, gl12, cl12, HG12⟩ := Kd.R_form HO_3.out (by omega); (first | cases eo12 | (injection eo12 with ea_ en_ ec_; (first | subst ea_ | (injection ea_ with ea_; subst ea_)); subst ec_; clear en_)); have GB12 := Aside0.mk gb12; have GG12 := Aside0.mk HG12; clear gb12 gl12 HG12; obtain ⟨hx12_0, hf12_0⟩ := Kd.R_celln 0 HO_3.out (x12_1 : Int) p12 q12; replace p12 := eq_true p12; replace q12 := eq_true q12; obtain ⟨hy14_, hz14_⟩ := Kd.R_celln 0 HO_3.out (x12_1 : Int) (of_decide_eq_true (by first | (with_reducible assumption) | assumption)) (of_decide_eq_true (by first | (with_reducible assumption) | assumption)); have HP14 := Kd.R_putg HO_3.out (x12_1 : Int) (wrap64 (t165 - x4_1))) | ((with_reducible refine gate_store (t := 3) (p := 23) rfl ?_); refine store_event (t := 3) (p := 23) (v := ?vo_w15) (w1 := (w13.setCell ⟨go12, (x12_1 : Int).toNat, none⟩ (.int .i64 (wrap64 (t165 - x4_1))))) ?hg ?ho ?hn ?hr ?_; (case ho => rfl); (case hg => rfl); (case hn => rfl); (case hr => first | (go_simp; done) | (go_simp; rfl)); intro w15 hw; have hg : w13.grownBy w15 (some go12) := (by rw [hw]; exact HP14.2); have hp_ : Kd.R (Kd.int .i64) 3 w15 w.heap.size (fun _ => True) (.slice (some ⟨go12, 0, none⟩) x3_1.length co7) y166 := (by rw [hw, Ny166.out]; exact HP14.1); clear HP14; have n0_ := Aside0.mk (hp_); have n1_ := Aside0.mk ((by rw [hw]; exact below_set (HB.out) GB12.out : Below w.heap.size w w15)); clear HO_3; clear HB; have HO_3 := n0_; have HB := n1_; clear n0_ n1_; clear hg hw hp_))
                (try simp only [← hl3_1])
                go_roundg k1
                case measure => have := HK1.out; omega
                case rel => exact ⟨(y166), (t165), (wrap64 (x12_1 + 1)), (by first | rfl | (simp; done) | (simp [*]; done)), (by first | rfl | (simp; done) | (simp [*]; done)), H', ⟨by have := HK1.out; omega⟩, ⟨by (try simp only [hl3_1]); (with_reducible repeat (first | apply Kd.R_alloc | apply Kd.R_drewN | apply Kd.R_drew)); exact HO_3.out⟩, ⟨by repeat (first | (with_reducible first | exact HB.out | apply below_alloc | apply pw_below_drewN | apply below_drew1) | exact HB.out)⟩⟩
              · rw [if_neg c11] at H
                exact absurd H (by simp)
            · rw [if_neg c10] at H
              exact absurd H (by simp)
          · rw [if_neg c8] at H
            have c8b0 : decide (x12_1 < (y162.length : Int)) = false := decide_eq_false c8
            (try (have c8b0h := c8b0; simp only [hl3_1] at c8b0h))
            clear c8
            obtain rfl := Option.some.inj H
            go_wp2
            go_ret
            exact ⟨_, by first | rfl | (simp [errW_none, errW_some] <;> rfl) | (simp only [← hji2]; first | rfl | (simp [errW_none, errW_some] <;> rfl)) | (simp [*, errW_none, errW_some] <;> rfl), by (with_reducible repeat (first | apply Kd.R_alloc | apply Kd.R_drewN | apply Kd.R_drew)); exact HO_3.out, by repeat (first | (with_reducible first | exact HB.out | apply below_alloc | apply pw_below_drewN | apply below_drew1) | exact HB.out)⟩
    · rw [if_neg c4] at H
      exact absurd H (by simp)
  · rw [if_neg c3] at H
    exact absurd H (by simp)

end Go.Proofs.YtjjkglfpcdedlabDoor.QFnGoodPathsSorted
