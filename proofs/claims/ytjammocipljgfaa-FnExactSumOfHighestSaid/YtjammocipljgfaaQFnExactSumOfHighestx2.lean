/- Written by a program of this repo (xprint: a turned copy of the kit's print, with our own templates in it); Lean checks all of it. -/
import Derived.Test.YtjammocipljgfaaQFnExactSumOfHighestx0
import Derived.Test.YtjammocipljgfaaQFnExactSumOfHighestx1
namespace Go.Proofs.Ytjammocipljgfaa.QFnExactSumOfHighest
open Go.RowKit Go.Proofs.YtjammocipljgfaaZ Go.Proofs.YtjammocipljgfaaZm Go.Maps Go.Proofs.YtjammocipljgfaaW.PrintWords Go.Proofs.YtjammocipljgfaaW.PrintLast Go.Proofs.YtjammocipljgfaaW.PrintMore
attribute [local go_sem] max2_int min2_int max_two min_two max_three min_three max_four min_four   -- for this text's walks alone
set_option linter.unusedVariables false
set_option linter.unusedSimpArgs false

/-! ### impl_between_2: function 74 -/
def impl_between_2.g (ups downs low high : Int) : Nat → Int → Int → Option Int
  | 0, _, _ => none
  | k + 1, u, d => if ups < u then some 0 else (if downs < d then some 0 else ((impl_in.f (wrap64 (u - d)) low high).bind fun t => (if t = true then (if u = ups ∧ d = downs then some 1 else ((impl_between_2.g ups downs low high k (wrap64 (u + 1)) d).bind fun a => (impl_between_2.g ups downs low high k u (wrap64 (d + 1))).bind fun b => some (wrap64 (a + b)))) else some 0)))
theorem impl_between_2.mono (ups downs low high : Int) : ∀ k u d, LeO (impl_between_2.g ups downs low high k u d) (impl_between_2.g ups downs low high (k + 1) u d)
  | 0 => fun _ _ r h => by simp [impl_between_2.g] at h
  | k + 1 => by
    intro u d
    have ih := impl_between_2.mono ups downs low high k
    unfold impl_between_2.g
    refine LeO.ite (LeO.refl _) (LeO.ite (LeO.refl _) (LeO.bind (LeO.refl _) fun _ => LeO.ite (LeO.ite (LeO.refl _) (LeO.bind (ih _ _) fun _ => LeO.bind (ih _ _) fun _ => LeO.refl _)) (LeO.refl _)))
theorem impl_between_2.one (ups downs low high : Int) {k k' : Nat} {u d a b : Int} (h : impl_between_2.g ups downs low high k u d = some a) (h' : impl_between_2.g ups downs low high k' u d = some b) : a = b := by
  have up : ∀ (k : Nat) (a : Int), impl_between_2.g ups downs low high k u d = some a → ∀ m, impl_between_2.g ups downs low high (k + m) u d = some a := by
    intro k a h m
    induction m with
    | zero => exact h
    | succ m ih => exact impl_between_2.mono ups downs low high (k + m) u d a ih
  have e1 := up k a h k'
  have e2 := up k' b h' k
  rw [Nat.add_comm] at e2
  exact Option.some.inj (e1.symm.trans e2)
def impl_between_2.ok (ups downs low high : Int) (key : Value) (c : Int) : Prop := ∃ k u d, key = .agg #[.int .i64 u, .int .i64 d] ∧ impl_between_2.g ups downs low high k u d = some c
theorem impl_between_2.enters : Enters Try.prog 74 := ent_of Try.func74 (by kernel_rfl) rfl
theorem impl_between_2.law : Maps.Keyed Try.prog 47 := Maps.Keyed.of_law (deep_law_laid (by kernel_rfl) (m := 2) (by omega) (of_decide_eq_true (by kernel_rfl)) (by kernel_rfl) (by rw [Try.underlying47]))
theorem impl_between_2.key (u d : Int) (hu : (Lit.int .i64 u).wf = true) (hd : (Lit.int .i64 d).wf = true) : ∃ kl, keyOf Try.prog 47 (.agg #[.int .i64 u, .int .i64 d]) = some kl := by
  obtain ⟨s, hs⟩ : ∃ s, Try.prog.types.size = s + 1 := ⟨Try.prog.types.size - 1, by kernel_rfl⟩
  exact zKey2 (e := 3) Try.underlying47 Try.underlying3 (by kernel_rfl) (by kernel_rfl) (by kernel_rfl) hs hu hd
theorem impl_between_2.zero (w : World) : (zeroValue 3).run Try.prog w = .ok (.int .i64 0) w := by kernel_rfl
set_option maxHeartbeats 2000000 in
set_option maxRecDepth 100000 in
theorem impl_between_2.calls (ups downs low high : Int) (bu bd bl bh bk bf B : Nat) (hne : B ≠ bu ∧ B ≠ bd ∧ B ≠ bl ∧ B ≠ bh ∧ B ≠ bk ∧ B ≠ bf) : ∀ (k : Nat) (u d r : Int) (n : Nat) (w : World) (_ : (Lit.int .i64 u).wf = true) (_ : (Lit.int .i64 d).wf = true)
    (_ : w.cell? ⟨bu, 0, none⟩ = some (.int .i64 ups)) (_ : w.cell? ⟨bd, 0, none⟩ = some (.int .i64 downs)) (_ : w.cell? ⟨bl, 0, none⟩ = some (.int .i64 low)) (_ : w.cell? ⟨bh, 0, none⟩ = some (.int .i64 high)) (_ : w.cell? ⟨bk, 0, none⟩ = some (.map (some B)))
    (_ : w.cell? ⟨bf, 0, none⟩ = some (.func (.func 74) #[] #[.pointer (some ⟨bu, 0, none⟩), .pointer (some ⟨bd, 0, none⟩), .pointer (some ⟨bl, 0, none⟩), .pointer (some ⟨bh, 0, none⟩), .pointer (some ⟨bk, 0, none⟩), .pointer (some ⟨bf, 0, none⟩)]))
    (_ : Memo Try.prog 47 3 w B n (impl_between_2.ok ups downs low high)) (_ : n + 2 ^ k ≤ maxLen) (_ : impl_between_2.g ups downs low high k u d = some r),
    Calls Try.prog 74 #[.int .i64 u, .int .i64 d, .pointer (some ⟨bu, 0, none⟩), .pointer (some ⟨bd, 0, none⟩), .pointer (some ⟨bl, 0, none⟩), .pointer (some ⟨bh, 0, none⟩), .pointer (some ⟨bk, 0, none⟩), .pointer (some ⟨bf, 0, none⟩)] w
      fun e w' => e = .returned (.int .i64 r) ∧ w.grownBy w' (some B) ∧ ∃ n', n' < n + 2 ^ k ∧ Memo Try.prog 47 3 w' B n' (impl_between_2.ok ups downs low high) := by
  have heg : ∀ (args : Array Value) (w : World), (callFunc 74 args).run Try.prog w = .ok (.enter 74 args) w := impl_between_2.enters
  intro k
  induction k with
  | zero => intro u d r n w _ _ _ _ _ _ _ _ _ _ h; simp [impl_between_2.g] at h
  | succ k ih =>
    intro u d r n w hu hd c0 c1 c2 c3 c4 c5 hM hn h
    have hg0 := Aside0.mk h
    have hpos : n < n + 2 ^ (k + 1) := Nat.lt_add_of_pos_right (Nat.pow_pos (by decide))
    unfold impl_between_2.g at h
    by_cases q1 : ups < u
    · rw [if_pos q1] at h
      obtain rfl := Option.some.inj h
      have q1b : decide (ups < u) = true := decide_eq_true q1
      have q1c : decide (u > ups) = true := decide_eq_true q1
      go_enter Try.func74, Try.ntmps74
      go_wp2
      go_ret
      exact ⟨rfl, World.grownBy.refl _ _, n, hpos, hM⟩
    · rw [if_neg q1] at h
      have q1b : decide (ups < u) = false := decide_eq_false q1
      have q1c : decide (u > ups) = false := decide_eq_false q1
      by_cases q2 : downs < d
      · rw [if_pos q2] at h
        obtain rfl := Option.some.inj h
        have q2b : decide (downs < d) = true := decide_eq_true q2
        have q2c : decide (d > downs) = true := decide_eq_true q2
        go_enter Try.func74, Try.ntmps74
        go_wp2
        go_ret
        exact ⟨rfl, World.grownBy.refl _ _, n, hpos, hM⟩
      · rw [if_neg q2] at h
        have q2b : decide (downs < d) = false := decide_eq_false q2
        have q2c : decide (d > downs) = false := decide_eq_false q2
        obtain ⟨t, A0, h⟩ := Option.bind_eq_some_iff.mp h
        have A1 := Aside0.mk A0
        clear A0
        by_cases q3 : t = true
        · subst q3
          rw [if_pos rfl] at h
          by_cases q4 : u = ups ∧ d = downs
          · rw [if_pos q4] at h
            obtain rfl := Option.some.inj h
            obtain ⟨q5, q6⟩ := q4
            subst q5 q6
            go_enter Try.func74, Try.ntmps74
            go_wp2_with (first | (go_at_call 56; refine (impl_in.calls (wrap64 (u - d)) low high true _ A1.out).mono ?_; rintro e w1 ⟨rfl, ⟨nd, rfl⟩⟩))
            go_ret
            exact ⟨rfl, grown_drewN (World.grownBy.refl _ _) _, n, hpos, hM.drewN _⟩
          · rw [if_neg q4] at h
            obtain ⟨kl, hkey⟩ := impl_between_2.key u d hu hd
            have q5 : (u = ups ∧ decide (d = downs) = false) ∨ decide (u = ups) = false := by
              by_cases e : u = ups
              · exact .inl ⟨e, decide_eq_false (fun e2 => q4 ⟨e, e2⟩)⟩
              · exact .inr (decide_eq_false e)
            rcases q5 with ⟨q5, q6⟩ | q5
            · have q7 : (u == ups) = true := beq_iff_eq.mpr q5
              have q8 : (d == downs) = false := beq_eq_false_iff_ne.mpr (of_decide_eq_false q6)
              clear q5 q6
              go_enter Try.func74, Try.ntmps74
              go_upto_region 6 with (first | (go_at_call 56; refine (impl_in.calls (wrap64 (u - d)) low high true _ A1.out).mono ?_; rintro e w1 ⟨rfl, ⟨nd, rfl⟩⟩) | ((with_reducible refine gate_dst (N := 11) rfl ?_); refine box_event ?hg (N := 11) ?hd (cs := #[.int .i64 0, .int .i64 0]) (t := 47) ?hr ?_; (case hd => rfl); (case hg => rfl); (case hr => first | (go_simp; done) | (go_simp; rfl)); intro gb hgb w4 hbox hb; have HBX := Aside0.mk hbox; have HGE := Aside0.mk (Nat.le_of_eq hgb.symm : w.heap.size ≤ gb); have HB4 := Aside0.mk hb; clear hgb hb; have hcz0 : w4.cell? ⟨gb, 0, none⟩ = some (.int .i64 0) := (blk_cell hbox 0).trans rfl; have hcz1 : w4.cell? ⟨gb, 1, none⟩ = some (.int .i64 0) := (blk_cell hbox 1).trans rfl; have hfz0 := blk_frozen hbox 0; have hfz1 := blk_frozen hbox 1; clear hbox) | ((with_reducible refine gate_store (t := 47) (p := 11) rfl ?_); refine store_event (t := 47) (p := 11) (v := ?vo) (w1 := (w4.setCell ⟨gb, 0, none⟩ (.int .i64 u)).setCell ⟨gb, 1, none⟩ (.int .i64 d)) ?hg ?ho ?hn ?hr ?_; (case ho => rfl); (case hg => rfl); (case hn => rfl); (case hr => first | (go_simp; done) | (go_simp; rfl)); intro w5 hw5; have HW5 := Aside0.mk hw5; have HBY := Aside0.mk (show w5.heap[gb]? = some (.cells #[.int .i64 u, .int .i64 d] 47 (0, 0)) by rw [hw5]; exact blk_set (blk_set HBX.out 0 _) 1 _); clear hw5 hcz0 hcz1 hfz0 hfz1; have hcz0 : w5.cell? ⟨gb, 0, none⟩ = some (.int .i64 u) := (blk_cell HBY.out 0).trans rfl; have hcz1 : w5.cell? ⟨gb, 1, none⟩ = some (.int .i64 d) := (blk_cell HBY.out 1).trans rfl))
              have hgr : w.grownBy w5 (some B) := by
                rw [HW5.out]
                exact grown_set (grown_set (grown_below (grown_drewN (World.grownBy.refl _ _) _) HB4.out) (by exact HGE.out) _) (by exact HGE.out) _
              have hBg : B ≠ gb := Nat.ne_of_lt (Nat.lt_of_lt_of_le hM.lt HGE.out)
              have hM5 : Memo Try.prog 47 3 w5 B n (impl_between_2.ok ups downs low high) := by
                rw [HW5.out]
                exact (((hM.drewN _).below HB4.out).setCell hBg _).setCell hBg _
              replace c0 := hgr.cell c0 (fun e => hne.1 (Option.some.inj e).symm)
              replace c1 := hgr.cell c1 (fun e => hne.2.1 (Option.some.inj e).symm)
              replace c2 := hgr.cell c2 (fun e => hne.2.2.1 (Option.some.inj e).symm)
              replace c3 := hgr.cell c3 (fun e => hne.2.2.2.1 (Option.some.inj e).symm)
              replace c4 := hgr.cell c4 (fun e => hne.2.2.2.2.1 (Option.some.inj e).symm)
              replace c5 := hgr.cell c5 (fun e => hne.2.2.2.2.2 (Option.some.inj e).symm)
              have HG5 := Aside0.mk hgr
              clear hgr
              have HM5 := Aside0.mk hM5
              rcases hM5.look (t := 46) impl_between_2.law Try.underlying46 Try.underlying3 (impl_between_2.zero _) hkey with ⟨c, hok, hrun⟩ | hrun
              · obtain ⟨k', u', d', e1, hg1⟩ := hok
                simp only [Value.agg.injEq, Array.mk.injEq, List.cons.injEq, Value.int.injEq, true_and, and_true] at e1
                obtain ⟨rfl, rfl⟩ := e1
                obtain rfl := impl_between_2.one _ _ _ _ hg1 hg0.out
                clear hM5 hM hg1
                go_wp2
                go_ret
                exact ⟨rfl, HG5.out, n, hpos, HM5.out⟩
              · clear hM5 hM
                obtain ⟨a, Ha, h⟩ := Option.bind_eq_some_iff.mp h
                obtain ⟨b, Hb, h⟩ := Option.bind_eq_some_iff.mp h
                obtain rfl := Option.some.inj h
                have HA := Aside0.mk Ha
                have HB := Aside0.mk Hb
                clear Ha Hb h
                go_upto_region 8 with (first | (fail))
                have hn1 : n + 2 ^ k ≤ maxLen := Nat.le_trans (Nat.add_le_add_left (Nat.pow_le_pow_right (by decide) (Nat.le_succ k)) n) hn
                have hn2 : ∀ m, m < n + 2 ^ k → m + 2 ^ k ≤ maxLen := fun m hm => by rw [Nat.pow_succ] at hn; omega
                have hn3 : ∀ m m', m < n + 2 ^ k → m' < m + 2 ^ k → m' < maxLen ∧ m' + 1 < n + 2 ^ (k + 1) := fun m m' hm hm' => by rw [Nat.pow_succ] at hn ⊢; omega
                go_region_held3 (fun w' => w'.cell? ⟨bf, 0, none⟩ = some (.func (.func 74) #[] #[.pointer (some ⟨bu, 0, none⟩), .pointer (some ⟨bd, 0, none⟩), .pointer (some ⟨bl, 0, none⟩), .pointer (some ⟨bh, 0, none⟩), .pointer (some ⟨bk, 0, none⟩), .pointer (some ⟨bf, 0, none⟩)])) (first | exact c5 | exact c5a | exact c5b) (first | (go_at_call 74; have hq_ := HMa; clear hq_; rw [i64_w (d + 1)]; refine (ih u (wrap64 (d + 1)) b na _ hu (wrap64_wf _) ?c0 ?c1 ?c2 ?c3 ?c4 ?c5 ?cM ?cn HB.out).mono ?_; (case c0 => exact c0a); (case c1 => exact c1a); (case c2 => exact c2a); (case c3 => exact c3a); (case c4 => exact c4a); (case c5 => exact c5a); (case cM => exact HMa.out); (case cn => exact hn2 _ HNa.out); rintro e wb ⟨rfl, hgb, nb, hnb, hMb⟩; have hz0b := hgb.cell hz0a (fun e => hBg (Option.some.inj e).symm); have hz1b := hgb.cell hz1a (fun e => hBg (Option.some.inj e).symm); have HNb := Aside0.mk hnb; clear hnb; have c0b := hgb.cell c0a (fun e => hne.1 (Option.some.inj e).symm); have c1b := hgb.cell c1a (fun e => hne.2.1 (Option.some.inj e).symm); have c2b := hgb.cell c2a (fun e => hne.2.2.1 (Option.some.inj e).symm); have c3b := hgb.cell c3a (fun e => hne.2.2.2.1 (Option.some.inj e).symm); have c4b := hgb.cell c4a (fun e => hne.2.2.2.2.1 (Option.some.inj e).symm); have c5b := hgb.cell c5a (fun e => hne.2.2.2.2.2 (Option.some.inj e).symm); have HMb := Aside0.mk hMb; have HGb := Aside0.mk hgb; clear hMb hgb) | (go_at_call 74; rw [i64_w (u + 1)]; refine (ih (wrap64 (u + 1)) d a n _ (wrap64_wf _) hd ?c0 ?c1 ?c2 ?c3 ?c4 ?c5 ?cM ?cn HA.out).mono ?_; (case c0 => exact c0); (case c1 => exact c1); (case c2 => exact c2); (case c3 => exact c3); (case c4 => exact c4); (case c5 => exact c5); (case cM => exact HM5.out); (case cn => exact hn1); rintro e wa ⟨rfl, hga, na, hna, hMa⟩; have hz0a := hga.cell hcz0 (fun e => hBg (Option.some.inj e).symm); have hz1a := hga.cell hcz1 (fun e => hBg (Option.some.inj e).symm); have HNa := Aside0.mk hna; clear hna; have c0a := hga.cell c0 (fun e => hne.1 (Option.some.inj e).symm); have c1a := hga.cell c1 (fun e => hne.2.1 (Option.some.inj e).symm); have c2a := hga.cell c2 (fun e => hne.2.2.1 (Option.some.inj e).symm); have c3a := hga.cell c3 (fun e => hne.2.2.2.1 (Option.some.inj e).symm); have c4a := hga.cell c4 (fun e => hne.2.2.2.2.1 (Option.some.inj e).symm); have c5a := hga.cell c5 (fun e => hne.2.2.2.2.2 (Option.some.inj e).symm); have HMa := Aside0.mk hMa; have HGa := Aside0.mk hga; clear hMa hga))
                rw [i64_w (a + b)]
                clear c0 c1 c2 c3 c5 c0a c1a c2a c3a c4a c5a c0b c1b c2b c3b c5b hcz0 hcz1 hz0a hz1a hrun
                go_wp2_with (first | (at_mapUpdate; refine wpList_memo_put rfl _ _ _ 46 rfl impl_between_2.law Try.underlying46 Try.underlying3 rfl HMb.out (hn3 _ _ HNa.out HNb.out).1 (.agg #[.int .i64 u, .int .i64 d]) kl (wrap64 (a + b)) rfl rfl hkey (wrap64_wf _) ⟨k + 1, u, d, rfl, hg0.out⟩ ?_; intro w9 hM9 hg9; have HM9 := Aside0.mk hM9; have HG9 := Aside0.mk hg9; clear hM9 hg9))
                go_ret
                exact ⟨rfl, (((grown_drew HG5.out).trans HGa.out).trans HGb.out).trans HG9.out, nb + 1, (hn3 _ _ HNa.out HNb.out).2, HM9.out⟩
            · have q7 : (u == ups) = false := beq_eq_false_iff_ne.mpr (of_decide_eq_false q5)
              go_enter Try.func74, Try.ntmps74
              go_upto_region 6 with (first | (go_at_call 56; refine (impl_in.calls (wrap64 (u - d)) low high true _ A1.out).mono ?_; rintro e w1 ⟨rfl, ⟨nd, rfl⟩⟩) | ((with_reducible refine gate_dst (N := 11) rfl ?_); refine box_event ?hg (N := 11) ?hd (cs := #[.int .i64 0, .int .i64 0]) (t := 47) ?hr ?_; (case hd => rfl); (case hg => rfl); (case hr => first | (go_simp; done) | (go_simp; rfl)); intro gb hgb w4 hbox hb; have HBX := Aside0.mk hbox; have HGE := Aside0.mk (Nat.le_of_eq hgb.symm : w.heap.size ≤ gb); have HB4 := Aside0.mk hb; clear hgb hb; have hcz0 : w4.cell? ⟨gb, 0, none⟩ = some (.int .i64 0) := (blk_cell hbox 0).trans rfl; have hcz1 : w4.cell? ⟨gb, 1, none⟩ = some (.int .i64 0) := (blk_cell hbox 1).trans rfl; have hfz0 := blk_frozen hbox 0; have hfz1 := blk_frozen hbox 1; clear hbox) | ((with_reducible refine gate_store (t := 47) (p := 11) rfl ?_); refine store_event (t := 47) (p := 11) (v := ?vo) (w1 := (w4.setCell ⟨gb, 0, none⟩ (.int .i64 u)).setCell ⟨gb, 1, none⟩ (.int .i64 d)) ?hg ?ho ?hn ?hr ?_; (case ho => rfl); (case hg => rfl); (case hn => rfl); (case hr => first | (go_simp; done) | (go_simp; rfl)); intro w5 hw5; have HW5 := Aside0.mk hw5; have HBY := Aside0.mk (show w5.heap[gb]? = some (.cells #[.int .i64 u, .int .i64 d] 47 (0, 0)) by rw [hw5]; exact blk_set (blk_set HBX.out 0 _) 1 _); clear hw5 hcz0 hcz1 hfz0 hfz1; have hcz0 : w5.cell? ⟨gb, 0, none⟩ = some (.int .i64 u) := (blk_cell HBY.out 0).trans rfl; have hcz1 : w5.cell? ⟨gb, 1, none⟩ = some (.int .i64 d) := (blk_cell HBY.out 1).trans rfl))
              have hgr : w.grownBy w5 (some B) := by
                rw [HW5.out]
                exact grown_set (grown_set (grown_below (grown_drewN (World.grownBy.refl _ _) _) HB4.out) (by exact HGE.out) _) (by exact HGE.out) _
              have hBg : B ≠ gb := Nat.ne_of_lt (Nat.lt_of_lt_of_le hM.lt HGE.out)
              have hM5 : Memo Try.prog 47 3 w5 B n (impl_between_2.ok ups downs low high) := by
                rw [HW5.out]
                exact (((hM.drewN _).below HB4.out).setCell hBg _).setCell hBg _
              replace c0 := hgr.cell c0 (fun e => hne.1 (Option.some.inj e).symm)
              replace c1 := hgr.cell c1 (fun e => hne.2.1 (Option.some.inj e).symm)
              replace c2 := hgr.cell c2 (fun e => hne.2.2.1 (Option.some.inj e).symm)
              replace c3 := hgr.cell c3 (fun e => hne.2.2.2.1 (Option.some.inj e).symm)
              replace c4 := hgr.cell c4 (fun e => hne.2.2.2.2.1 (Option.some.inj e).symm)
              replace c5 := hgr.cell c5 (fun e => hne.2.2.2.2.2 (Option.some.inj e).symm)
              have HG5 := Aside0.mk hgr
              clear hgr
              have HM5 := Aside0.mk hM5
              rcases hM5.look (t := 46) impl_between_2.law Try.underlying46 Try.underlying3 (impl_between_2.zero _) hkey with ⟨c, hok, hrun⟩ | hrun
              · obtain ⟨k', u', d', e1, hg1⟩ := hok
                simp only [Value.agg.injEq, Array.mk.injEq, List.cons.injEq, Value.int.injEq, true_and, and_true] at e1
                obtain ⟨rfl, rfl⟩ := e1
                obtain rfl := impl_between_2.one _ _ _ _ hg1 hg0.out
                clear hM5 hM hg1
                go_wp2
                go_ret
                exact ⟨rfl, HG5.out, n, hpos, HM5.out⟩
              · clear hM5 hM
                obtain ⟨a, Ha, h⟩ := Option.bind_eq_some_iff.mp h
                obtain ⟨b, Hb, h⟩ := Option.bind_eq_some_iff.mp h
                obtain rfl := Option.some.inj h
                have HA := Aside0.mk Ha
                have HB := Aside0.mk Hb
                clear Ha Hb h
                go_upto_region 8 with (first | (fail))
                have hn1 : n + 2 ^ k ≤ maxLen := Nat.le_trans (Nat.add_le_add_left (Nat.pow_le_pow_right (by decide) (Nat.le_succ k)) n) hn
                have hn2 : ∀ m, m < n + 2 ^ k → m + 2 ^ k ≤ maxLen := fun m hm => by rw [Nat.pow_succ] at hn; omega
                have hn3 : ∀ m m', m < n + 2 ^ k → m' < m + 2 ^ k → m' < maxLen ∧ m' + 1 < n + 2 ^ (k + 1) := fun m m' hm hm' => by rw [Nat.pow_succ] at hn ⊢; omega
                go_region_held3 (fun w' => w'.cell? ⟨bf, 0, none⟩ = some (.func (.func 74) #[] #[.pointer (some ⟨bu, 0, none⟩), .pointer (some ⟨bd, 0, none⟩), .pointer (some ⟨bl, 0, none⟩), .pointer (some ⟨bh, 0, none⟩), .pointer (some ⟨bk, 0, none⟩), .pointer (some ⟨bf, 0, none⟩)])) (first | exact c5 | exact c5a | exact c5b) (first | (go_at_call 74; have hq_ := HMa; clear hq_; rw [i64_w (d + 1)]; refine (ih u (wrap64 (d + 1)) b na _ hu (wrap64_wf _) ?c0 ?c1 ?c2 ?c3 ?c4 ?c5 ?cM ?cn HB.out).mono ?_; (case c0 => exact c0a); (case c1 => exact c1a); (case c2 => exact c2a); (case c3 => exact c3a); (case c4 => exact c4a); (case c5 => exact c5a); (case cM => exact HMa.out); (case cn => exact hn2 _ HNa.out); rintro e wb ⟨rfl, hgb, nb, hnb, hMb⟩; have hz0b := hgb.cell hz0a (fun e => hBg (Option.some.inj e).symm); have hz1b := hgb.cell hz1a (fun e => hBg (Option.some.inj e).symm); have HNb := Aside0.mk hnb; clear hnb; have c0b := hgb.cell c0a (fun e => hne.1 (Option.some.inj e).symm); have c1b := hgb.cell c1a (fun e => hne.2.1 (Option.some.inj e).symm); have c2b := hgb.cell c2a (fun e => hne.2.2.1 (Option.some.inj e).symm); have c3b := hgb.cell c3a (fun e => hne.2.2.2.1 (Option.some.inj e).symm); have c4b := hgb.cell c4a (fun e => hne.2.2.2.2.1 (Option.some.inj e).symm); have c5b := hgb.cell c5a (fun e => hne.2.2.2.2.2 (Option.some.inj e).symm); have HMb := Aside0.mk hMb; have HGb := Aside0.mk hgb; clear hMb hgb) | (go_at_call 74; rw [i64_w (u + 1)]; refine (ih (wrap64 (u + 1)) d a n _ (wrap64_wf _) hd ?c0 ?c1 ?c2 ?c3 ?c4 ?c5 ?cM ?cn HA.out).mono ?_; (case c0 => exact c0); (case c1 => exact c1); (case c2 => exact c2); (case c3 => exact c3); (case c4 => exact c4); (case c5 => exact c5); (case cM => exact HM5.out); (case cn => exact hn1); rintro e wa ⟨rfl, hga, na, hna, hMa⟩; have hz0a := hga.cell hcz0 (fun e => hBg (Option.some.inj e).symm); have hz1a := hga.cell hcz1 (fun e => hBg (Option.some.inj e).symm); have HNa := Aside0.mk hna; clear hna; have c0a := hga.cell c0 (fun e => hne.1 (Option.some.inj e).symm); have c1a := hga.cell c1 (fun e => hne.2.1 (Option.some.inj e).symm); have c2a := hga.cell c2 (fun e => hne.2.2.1 (Option.some.inj e).symm); have c3a := hga.cell c3 (fun e => hne.2.2.2.1 (Option.some.inj e).symm); have c4a := hga.cell c4 (fun e => hne.2.2.2.2.1 (Option.some.inj e).symm); have c5a := hga.cell c5 (fun e => hne.2.2.2.2.2 (Option.some.inj e).symm); have HMa := Aside0.mk hMa; have HGa := Aside0.mk hga; clear hMa hga))
                rw [i64_w (a + b)]
                clear c0 c1 c2 c3 c5 c0a c1a c2a c3a c4a c5a c0b c1b c2b c3b c5b hcz0 hcz1 hz0a hz1a hrun
                go_wp2_with (first | (at_mapUpdate; refine wpList_memo_put rfl _ _ _ 46 rfl impl_between_2.law Try.underlying46 Try.underlying3 rfl HMb.out (hn3 _ _ HNa.out HNb.out).1 (.agg #[.int .i64 u, .int .i64 d]) kl (wrap64 (a + b)) rfl rfl hkey (wrap64_wf _) ⟨k + 1, u, d, rfl, hg0.out⟩ ?_; intro w9 hM9 hg9; have HM9 := Aside0.mk hM9; have HG9 := Aside0.mk hg9; clear hM9 hg9))
                go_ret
                exact ⟨rfl, (((grown_drew HG5.out).trans HGa.out).trans HGb.out).trans HG9.out, nb + 1, (hn3 _ _ HNa.out HNb.out).2, HM9.out⟩
        · replace q3 := Bool.eq_false_iff.mpr q3
          subst q3
          rw [if_neg (show ¬ (false = true) by decide)] at h
          obtain rfl := Option.some.inj h
          go_enter Try.func74, Try.ntmps74
          go_wp2_with (first | (go_at_call 56; refine (impl_in.calls (wrap64 (u - d)) low high false _ A1.out).mono ?_; rintro e w1 ⟨rfl, ⟨nd, rfl⟩⟩))
          go_ret
          exact ⟨rfl, grown_drewN (World.grownBy.refl _ _) _, n, hpos, hM.drewN _⟩
/-- What the function value that impl.between hands back leans on. -/
def impl_between_2.Env (w : World) (base : Nat) (ups downs low high : Int) (n : Nat) (lb : Array Value) : Prop := ∃ bu bd bl bh bk bf B : Nat, (B ≠ bu ∧ B ≠ bd ∧ B ≠ bl ∧ B ≠ bh ∧ B ≠ bk ∧ B ≠ bf) ∧ base ≤ B ∧ lb = #[.pointer (some ⟨bu, 0, none⟩), .pointer (some ⟨bd, 0, none⟩), .pointer (some ⟨bl, 0, none⟩), .pointer (some ⟨bh, 0, none⟩), .pointer (some ⟨bk, 0, none⟩), .pointer (some ⟨bf, 0, none⟩)] ∧
  w.cell? ⟨bu, 0, none⟩ = some (.int .i64 ups) ∧ w.cell? ⟨bd, 0, none⟩ = some (.int .i64 downs) ∧ w.cell? ⟨bl, 0, none⟩ = some (.int .i64 low) ∧ w.cell? ⟨bh, 0, none⟩ = some (.int .i64 high) ∧ w.cell? ⟨bk, 0, none⟩ = some (.map (some B)) ∧
  w.cell? ⟨bf, 0, none⟩ = some (.func (.func 74) #[] #[.pointer (some ⟨bu, 0, none⟩), .pointer (some ⟨bd, 0, none⟩), .pointer (some ⟨bl, 0, none⟩), .pointer (some ⟨bh, 0, none⟩), .pointer (some ⟨bk, 0, none⟩), .pointer (some ⟨bf, 0, none⟩)]) ∧ Memo Try.prog 47 3 w B n (impl_between_2.ok ups downs low high)
theorem impl_between_2.apply {w : World} {base : Nat} {ups downs low high : Int} {n : Nat} {lb : Array Value} (hE : impl_between_2.Env w base ups downs low high n lb) (hb : base ≤ w.heap.size) (k : Nat) (hn : n + 2 ^ k ≤ maxLen) (u d r : Int) (hu : (Lit.int .i64 u).wf = true) (hd : (Lit.int .i64 d).wf = true) (h : impl_between_2.g ups downs low high k u d = some r) :
    Calls Try.prog 74 (#[.int .i64 u, .int .i64 d] ++ lb) w fun e w' => e = .returned (.int .i64 r) ∧ Below base w w' := by
  obtain ⟨bu, bd, bl, bh, bk, bf, B, hne, hB, rfl, c0, c1, c2, c3, c4, c5, hM⟩ := hE
  refine (impl_between_2.calls ups downs low high bu bd bl bh bk bf B hne k u d r n w hu hd c0 c1 c2 c3 c4 c5 hM hn h).mono ?_
  rintro e w' ⟨rfl, hg, _⟩
  exact ⟨rfl, (Below.refl _ _).grown hg hb (fun k e => by injection e with e; omega)⟩

/-! ### impl_between: function 71 -/
set_option maxHeartbeats 2000000 in
set_option maxRecDepth 100000 in
theorem impl_between.calls (ups downs low high : Int) (w : World) :
    Calls Try.prog 71 #[.int .i64 ups, .int .i64 downs, .int .i64 low, .int .i64 high] w fun e w' => ∃ lb, e = .returned (.func (.func 74) #[] lb) ∧ impl_between_2.Env w' w.heap.size ups downs low high 0 lb ∧ Below w.heap.size w w' := by
  have hmf : ∀ (fn : Fn) (first cap : Array Value) (w : World), (Instr.makeFunc fn first cap).run Try.prog w = .ok (.func fn first cap) w := fun _ _ _ _ => rfl
  have hmm := @run_makeMap Try.prog
  have hsf := fun (x : Addr) (fn : Fn) (a b : Array Value) (W : World) => run_store Try.prog W x (.func fn a b) .plain rfl
  go_enter Try.func71, Try.ntmps71
  go_wp2
  go_ret
  refine ⟨_, rfl, ?_, by repeat (first | exact Below.refl _ _ | apply below_alloc)⟩
  refine ⟨w.heap.size, w.heap.size + 1, w.heap.size + 1 + 1, w.heap.size + 1 + 1 + 1, w.heap.size + 1 + 1 + 1 + 1 + 1, w.heap.size + 1 + 1 + 1 + 1 + 1 + 1, w.heap.size + 1 + 1 + 1 + 1, by omega, by omega, rfl, ?_, ?_, ?_, ?_, ?_, ?_, ?_⟩
  iterate 6 (focus (repeat (first | exact cell_alloc_new _ _ _ (by simp) | refine cell_alloc_old ?_ _)))
  refine Memo.alloc (Memo.alloc ?_ _) _
  have hh := Memo.made (P := Try.prog) (K := 47) (E := 3) (ok := impl_between_2.ok ups downs low high) ((((w.alloc (Obj.cells #[Value.int IntKind.i64 ups] 3)).alloc (Obj.cells #[Value.int IntKind.i64 downs] 3)).alloc (Obj.cells #[Value.int IntKind.i64 low] 3)).alloc (Obj.cells #[Value.int IntKind.i64 high] 3))
  simpa only [World.size_alloc] using hh

/-! ### impl_byHeight: function 55 -/
def impl_byHeight.f (_k : Nat) (n h : Int) : Option Int := (impl_between_2.g n n 0 h 62 0 0).bind fun a => (impl_between_2.g n n 0 (wrap64 (h - 1)) 62 0 0).bind fun b => some (wrap64 (a - b))
theorem impl_byHeight.mono : ∀ n h k, LeO (impl_byHeight.f k n h) (impl_byHeight.f (k + 1) n h) := fun _ _ _ => LeO.refl _
set_option maxHeartbeats 2000000 in
set_option maxRecDepth 100000 in
theorem impl_byHeight.calls (k : Nat) (n x r : Int) (w : World) (h : impl_byHeight.f k n x = some r) :
    Calls Try.prog 55 #[.int .i64 n, .int .i64 x] w fun e w' => e = .returned (.int .i64 r) ∧ Below w.heap.size w w' := by
  have heg : ∀ (args : Array Value) (w : World), (callFunc 74 args).run Try.prog w = .ok (.enter 74 args) w := impl_between_2.enters
  obtain ⟨a, A0, h⟩ := Option.bind_eq_some_iff.mp h
  obtain ⟨b, B0, h⟩ := Option.bind_eq_some_iff.mp h
  obtain rfl := Option.some.inj h
  have HA := Aside0.mk A0
  have HB := Aside0.mk B0
  clear A0 B0 h
  go_enter Try.func55, Try.ntmps55
  go_wp2_with (first | (go_at_call 71; (first | (have hq_ := HB2; clear hq_; refine (impl_between.calls n n 0 (wrap64 (x - 1)) _).mono ?_; rintro e w3 ⟨lb3, rfl, hE3, hb3⟩; have HE3 := Aside0.mk hE3; have HB3 := Aside0.mk hb3; clear hE3 hb3) | (refine (impl_between.calls n n 0 x _).mono ?_; rintro e w1 ⟨lb1, rfl, hE1, hb1⟩; have HE1 := Aside0.mk hE1; have HB1 := Aside0.mk hb1; clear hE1 hb1))) | (go_at_fn 74; (first | (have hq_ := HB3; clear hq_; refine (impl_between_2.apply HE3.out (below_size HB3.out) 62 (by decide) 0 0 b (by decide) (by decide) HB.out).mono ?_; rintro e w4 ⟨rfl, hb4⟩; have HB4 := Aside0.mk (below_step HB2.out (HB3.out.trans hb4)); clear hb4) | (refine (impl_between_2.apply HE1.out (below_size HB1.out) 62 (by decide) 0 0 a (by decide) (by decide) HA.out).mono ?_; rintro e w2 ⟨rfl, hb2⟩; have HB2 := Aside0.mk (HB1.out.trans hb2); clear hb2))))
  go_ret
  exact ⟨rfl, HB4.out⟩

/-! ### impl_SumOfHighest: function 26 -/
def impl_SumOfHighest.l0 : Nat → Int → Int → Int → Int → Option (Int × Bool)
  | 0, _, _, _, _ => none
  | k + 1, x0, x4, x10, x11 => if x11 < x10 then ((impl_byHeight.f k x0 x11).bind fun t129 => (impl_SumOfHighest.l0 k x0 (wrap64 (x4 + (wrap64 (x11 * t129)))) x10 (wrap64 (x11 + 1)))) else (some (x4, true))
def impl_SumOfHighest.f (k : Nat) (a0 : Int) : Option (Int × Bool) := (impl_isPairs.f a0).bind fun t128 => (if t128 = true then (impl_SumOfHighest.l0 k a0 0 (wrap64 (a0 + 1)) 0) else (some (0, false)))
theorem impl_SumOfHighest.mono_l : ∀ k, (∀ y0 y1 y2 y3, LeO (impl_SumOfHighest.l0 k y0 y1 y2 y3) (impl_SumOfHighest.l0 (k + 1) y0 y1 y2 y3))
  | 0 => fun _ _ _ _ r h => by simp [impl_SumOfHighest.l0] at h
  | k + 1 => by
    have ih0 := impl_SumOfHighest.mono_l k
    · intro y0 y1 y2 y3
      unfold impl_SumOfHighest.l0
      repeat' first
      | (with_reducible exact ih0 _ _ _ _)
      | (with_reducible exact impl_byHeight.mono _ _ _)
      | (with_reducible exact LeO.refl _)
      | (with_reducible exact LeO.none _)
      | (with_reducible refine LeO.ite ?_ ?_)
      | (with_reducible refine LeO.bind ?_ (fun _ => ?_))
      | exact ih0 _ _ _ _
      | exact impl_byHeight.mono _ _ _
      | exact LeO.none _
      | refine LeO.ite ?_ ?_
      | refine LeO.bind ?_ (fun _ => ?_)
theorem impl_SumOfHighest.mono : ∀ a0 k, LeO (impl_SumOfHighest.f k a0) (impl_SumOfHighest.f (k + 1) a0) := by
  intro a0 k
  have ih0 := impl_SumOfHighest.mono_l k
  unfold impl_SumOfHighest.f
  repeat' first
      | (with_reducible exact ih0 _ _ _ _)
      | (with_reducible exact impl_byHeight.mono _ _ _)
      | (with_reducible exact LeO.refl _)
      | (with_reducible exact LeO.none _)
      | (with_reducible refine LeO.ite ?_ ?_)
      | (with_reducible refine LeO.bind ?_ (fun _ => ?_))
      | exact ih0 _ _ _ _
      | exact impl_byHeight.mono _ _ _
      | exact LeO.none _
      | refine LeO.ite ?_ ?_
      | refine LeO.bind ?_ (fun _ => ?_)
set_option maxHeartbeats 8000000 in
set_option maxRecDepth 100000 in
theorem impl_SumOfHighest.calls (k : Nat) (a0 : Int) (r1 : Int) (r2 : Bool) (w : World) (h : impl_SumOfHighest.f k a0 = some (r1, r2)) :
    Calls Try.prog 26 #[.int .i64 a0] w fun e w' => e = .returned (.tuple #[.int .i64 r1, .bool r2]) ∧ Below w.heap.size w w' := by
  have HB := Aside0.mk (Below.refl w.heap.size w)
  have H : ((impl_isPairs.f a0).bind fun t128 => (if t128 = true then (impl_SumOfHighest.l0 k a0 0 (wrap64 (a0 + 1)) 0) else (some (0, false)))) = some (r1, r2) := h
  clear h
  replace H := Option.bind_eq_some_iff.mp H
  obtain ⟨t128, A20, H⟩ := H
  replace H : (if t128 = true then (impl_SumOfHighest.l0 k a0 0 (wrap64 (a0 + 1)) 0) else (some (0, false))) = some (r1, r2) := H
  have A2 := Aside0.mk A20
  clear A20
  by_cases c3 : t128 = true
  · subst c3
    have H1 : (impl_SumOfHighest.l0 k a0 0 (wrap64 (a0 + 1)) 0) = some (r1, r2) := by rw [if_pos rfl] at H; exact H
    clear H
    have H := H1
    clear H1
    have H' := Aside0.mk H
    clear H
    go_enter Try.func26, Try.ntmps26
    go_wp2_with (first | ((with_reducible refine gate_callee (f := 48) rfl ?_); refine goesL_ (some 7) rfl rfl Try.func48 (by kernel_rfl) rfl #[.int .i64 a0] rfl (by (try simp only [List.map_toArray, List.map_cons, List.map_nil]); first | done | rfl | (simp only [List.length_drop, List.length_take]; rfl)) ?_; (with_reducible refine (impl_isPairs.calls a0 true _ A2.out).mono ?_); rintro e w' ⟨rfl, ⟨nd, rfl⟩⟩; refine ⟨_, rfl, ?_⟩))
    go_loopg [4, 11] k (fun kq v4 v11 w' => ∃ (x4_1 : Int) (x11_1 : Int), v4 = .int .i64 x4_1 ∧ v11 = .int .i64 x11_1 ∧ Aside0 (impl_SumOfHighest.l0 kq a0 x4_1 (wrap64 (a0 + 1)) x11_1 = some (r1, r2)) ∧ Aside0 (kq ≤ k) ∧ Aside0 (Below w.heap.size w w'))
    case atStart => exact ⟨(0), (0), (by first | rfl | (simp; done) | (simp [*]; done)), (by first | rfl | (simp; done) | (simp [*]; done)), H', ⟨Nat.le_refl _⟩, ⟨by repeat (first | (with_reducible first | exact HB.out | apply below_alloc | apply pw_below_drewN | apply below_drew1) | exact HB.out)⟩⟩
    case round =>
      clear H'
      try clear c2
      try clear p2
      try clear c3
      obtain ⟨x4_1, x11_1, rfl, rfl, HA, HK1, HB⟩ := hrel
      cases gk with
      | zero => exact absurd HA.out (by simp [impl_SumOfHighest.l0])
      | succ k1 =>
        have H := HA.out
        clear HA
        simp only [impl_SumOfHighest.l0] at H
        by_cases c4 : x11_1 < (wrap64 (a0 + 1))
        · rw [if_pos c4] at H
          have c4b0 : decide (x11_1 < (wrap64 (a0 + 1))) = true := decide_eq_true c4
          clear c4
          replace H := Option.bind_eq_some_iff.mp H
          obtain ⟨t129, A50, H⟩ := H
          replace H : (impl_SumOfHighest.l0 k1 a0 (wrap64 (x4_1 + (wrap64 (x11_1 * t129)))) (wrap64 (a0 + 1)) (wrap64 (x11_1 + 1))) = some (r1, r2) := H
          have A5 := Aside0.mk A50
          clear A50
          have H' := Aside0.mk H
          clear H
          go_wp2_with (first | ((with_reducible refine gate_callee (f := 55) rfl ?_); refine goesL_ (some 18) rfl rfl Try.func55 (by kernel_rfl) rfl #[.int .i64 a0, .int .i64 x11_1] rfl (by (try simp only [List.map_toArray, List.map_cons, List.map_nil]); first | done | rfl | (simp only [List.length_drop, List.length_take]; rfl)) ?_; (with_reducible refine (impl_byHeight.calls k1 a0 x11_1 t129 _ A5.out).mono ?_); rintro e w6 ⟨rfl, hb⟩; refine ⟨_, rfl, ?_⟩; have n0_ := Aside0.mk (below_step (by repeat (first | (with_reducible first | exact HB.out | apply below_alloc | apply pw_below_drewN | apply below_drew1) | exact HB.out)) hb); clear HB; have HB := n0_; clear n0_; (try clear hb); (try clear hb2); (try clear hk); (try clear hi)))
          go_roundg k1
          case measure => have := HK1.out; omega
          case rel => exact ⟨(wrap64 (x4_1 + (wrap64 (x11_1 * t129)))), (wrap64 (x11_1 + 1)), (by first | rfl | (simp; done) | (simp [*]; done)), (by first | rfl | (simp; done) | (simp [*]; done)), H', ⟨by have := HK1.out; omega⟩, ⟨by repeat (first | (with_reducible first | exact HB.out | apply below_alloc | apply pw_below_drewN | apply below_drew1) | exact HB.out)⟩⟩
        · rw [if_neg c4] at H
          have c4b0 : decide (x11_1 < (wrap64 (a0 + 1))) = false := decide_eq_false c4
          clear c4
          simp only [Option.some.injEq, Prod.mk.injEq] at H
          obtain ⟨rfl, rfl⟩ := H
          go_wp2
          go_ret2
          exact ⟨by first | rfl | (simp [errW_none, errW_some] <;> rfl) | (simp [*, errW_none, errW_some] <;> rfl), by repeat (first | (with_reducible first | exact HB.out | apply below_alloc | apply pw_below_drewN | apply below_drew1) | exact HB.out)⟩
  · replace c3 := Bool.eq_false_iff.mpr c3
    subst c3
    have H1 : (some (0, false)) = some (r1, r2) := by rw [if_neg (show ¬ (false = true) by decide)] at H; exact H
    clear H
    have H := H1
    clear H1
    simp only [Option.some.injEq, Prod.mk.injEq] at H
    obtain ⟨rfl, rfl⟩ := H
    go_enter Try.func26, Try.ntmps26
    go_wp2_with (first | ((with_reducible refine gate_callee (f := 48) rfl ?_); refine goesL_ (some 7) rfl rfl Try.func48 (by kernel_rfl) rfl #[.int .i64 a0] rfl (by (try simp only [List.map_toArray, List.map_cons, List.map_nil]); first | done | rfl | (simp only [List.length_drop, List.length_take]; rfl)) ?_; (with_reducible refine (impl_isPairs.calls a0 false _ A2.out).mono ?_); rintro e w' ⟨rfl, ⟨nd, rfl⟩⟩; refine ⟨_, rfl, ?_⟩))
    go_ret2
    exact ⟨by first | rfl | (simp [errW_none, errW_some] <;> rfl) | (simp [*, errW_none, errW_some] <;> rfl), by repeat (first | (with_reducible first | exact HB.out | apply below_alloc | apply pw_below_drewN | apply below_drew1) | exact HB.out)⟩

/-! ### laws_FnExactSumOfHighest: function 7 -/
def laws_FnExactSumOfHighest.f (k : Nat) (a0 : Int) : Option (Bool) := (spec_SumOfHighest.f k a0).bind fun bt130 => ((impl_SumOfHighest.f k a0).bind fun bt132 => (if bt132.1 = bt130.1 then (if (bt132.2 != bt130.2) = true then (some false) else (some true)) else (some false)))
theorem laws_FnExactSumOfHighest.mono : ∀ a0 k, LeO (laws_FnExactSumOfHighest.f k a0) (laws_FnExactSumOfHighest.f (k + 1) a0) := by
  intro a0 k
  unfold laws_FnExactSumOfHighest.f
  repeat' first
      | (with_reducible exact impl_SumOfHighest.mono _ _)
      | (with_reducible exact spec_SumOfHighest.mono _ _)
      | (with_reducible exact LeO.refl _)
      | (with_reducible exact LeO.none _)
      | (with_reducible refine LeO.ite ?_ ?_)
      | (with_reducible refine LeO.bind ?_ (fun _ => ?_))
      | exact impl_SumOfHighest.mono _ _
      | exact spec_SumOfHighest.mono _ _
      | exact LeO.none _
      | refine LeO.ite ?_ ?_
      | refine LeO.bind ?_ (fun _ => ?_)
set_option maxHeartbeats 8000000 in
set_option maxRecDepth 100000 in
theorem laws_FnExactSumOfHighest.calls (k : Nat) (a0 : Int) (r : Bool) (w : World) (h : laws_FnExactSumOfHighest.f k a0 = some r) :
    Calls Try.prog 7 #[.int .i64 a0] w fun e w' => e = .returned (.bool r) ∧ Below w.heap.size w w' := by
  have HB := Aside0.mk (Below.refl w.heap.size w)
  have H : ((spec_SumOfHighest.f k a0).bind fun bt130 => ((impl_SumOfHighest.f k a0).bind fun bt132 => (if bt132.1 = bt130.1 then (if (bt132.2 != bt130.2) = true then (some false) else (some true)) else (some false)))) = some r := h
  clear h
  replace H := Option.bind_eq_some_iff.mp H
  obtain ⟨⟨t130, t131⟩, A20, H⟩ := H
  replace H : ((impl_SumOfHighest.f k a0).bind fun bt132 => (if bt132.1 = t130 then (if (bt132.2 != t131) = true then (some false) else (some true)) else (some false))) = some r := H
  have A2 := Aside0.mk A20
  clear A20
  replace H := Option.bind_eq_some_iff.mp H
  obtain ⟨⟨t132, t133⟩, A30, H⟩ := H
  replace H : (if t132 = t130 then (if (t133 != t131) = true then (some false) else (some true)) else (some false)) = some r := H
  have A3 := Aside0.mk A30
  clear A30
  by_cases c4 : t132 = t130
  · rw [if_pos c4] at H
    have c4b0 : (t132 == t130) = true := beq_iff_eq.mpr c4
    have c4b1 : (t132 != t130) = false := bne_eq_false_iff_eq.mpr c4
    clear c4
    by_cases c5 : (t133 != t131) = true
    · rw [if_pos c5] at H
      have c5b0 : (t133 != t131) = true := c5
      (try (have c5b1 : decide (t133 = t131) = false := by simpa using c5))
      (try (have c5b2 : (t133 == t131) = false := by simpa using c5))
      (try (have c5b3 : ¬ (t133 = t131) := by simpa using c5))
      clear c5
      obtain rfl := Option.some.inj H
      go_enter Try.func7, Try.ntmps7
      go_wp2_with (first | ((with_reducible refine gate_callee (f := 25) rfl ?_); refine goesL_ (some 9) rfl rfl Try.func25 (by kernel_rfl) rfl #[.int .i64 a0] rfl (by (try simp only [List.map_toArray, List.map_cons, List.map_nil]); first | done | rfl | (simp only [List.length_drop, List.length_take]; rfl)) ?_; (with_reducible refine (spec_SumOfHighest.calls k a0 t130 t131 _ A2.out).mono ?_); rintro e w6 ⟨rfl, hb⟩; refine ⟨_, rfl, ?_⟩; have n0_ := Aside0.mk (below_step (by repeat (first | (with_reducible first | exact HB.out | apply below_alloc | apply pw_below_drewN | apply below_drew1) | exact HB.out)) hb); clear HB; have HB := n0_; clear n0_; (try clear hb); (try clear hb2); (try clear hk); (try clear hi)) | ((with_reducible refine gate_callee (f := 26) rfl ?_); refine goesL_ (some 14) rfl rfl Try.func26 (by kernel_rfl) rfl #[.int .i64 a0] rfl (by (try simp only [List.map_toArray, List.map_cons, List.map_nil]); first | done | rfl | (simp only [List.length_drop, List.length_take]; rfl)) ?_; (with_reducible refine (impl_SumOfHighest.calls k a0 t132 t133 _ A3.out).mono ?_); rintro e w7 ⟨rfl, hb⟩; refine ⟨_, rfl, ?_⟩; have n0_ := Aside0.mk (below_step (by repeat (first | (with_reducible first | exact HB.out | apply below_alloc | apply pw_below_drewN | apply below_drew1) | exact HB.out)) hb); clear HB; have HB := n0_; clear n0_; (try clear hb); (try clear hb2); (try clear hk); (try clear hi)))
      go_ret
      exact ⟨by first | rfl | (simp [errW_none, errW_some] <;> rfl) | (simp [*, errW_none, errW_some] <;> rfl), by repeat (first | (with_reducible first | exact HB.out | apply below_alloc | apply pw_below_drewN | apply below_drew1) | exact HB.out)⟩
    · rw [if_neg c5] at H
      have c5b0 : (t133 != t131) = false := by simpa using c5
      (try (have c5b1 : decide (t133 = t131) = true := by simpa using c5))
      (try (have c5b2 : (t133 == t131) = true := by simpa using c5))
      clear c5
      obtain rfl := Option.some.inj H
      go_enter Try.func7, Try.ntmps7
      go_wp2_with (first | ((with_reducible refine gate_callee (f := 25) rfl ?_); refine goesL_ (some 9) rfl rfl Try.func25 (by kernel_rfl) rfl #[.int .i64 a0] rfl (by (try simp only [List.map_toArray, List.map_cons, List.map_nil]); first | done | rfl | (simp only [List.length_drop, List.length_take]; rfl)) ?_; (with_reducible refine (spec_SumOfHighest.calls k a0 t130 t131 _ A2.out).mono ?_); rintro e w8 ⟨rfl, hb⟩; refine ⟨_, rfl, ?_⟩; have n0_ := Aside0.mk (below_step (by repeat (first | (with_reducible first | exact HB.out | apply below_alloc | apply pw_below_drewN | apply below_drew1) | exact HB.out)) hb); clear HB; have HB := n0_; clear n0_; (try clear hb); (try clear hb2); (try clear hk); (try clear hi)) | ((with_reducible refine gate_callee (f := 26) rfl ?_); refine goesL_ (some 14) rfl rfl Try.func26 (by kernel_rfl) rfl #[.int .i64 a0] rfl (by (try simp only [List.map_toArray, List.map_cons, List.map_nil]); first | done | rfl | (simp only [List.length_drop, List.length_take]; rfl)) ?_; (with_reducible refine (impl_SumOfHighest.calls k a0 t132 t133 _ A3.out).mono ?_); rintro e w9 ⟨rfl, hb⟩; refine ⟨_, rfl, ?_⟩; have n0_ := Aside0.mk (below_step (by repeat (first | (with_reducible first | exact HB.out | apply below_alloc | apply pw_below_drewN | apply below_drew1) | exact HB.out)) hb); clear HB; have HB := n0_; clear n0_; (try clear hb); (try clear hb2); (try clear hk); (try clear hi)))
      go_ret
      exact ⟨by first | rfl | (simp [errW_none, errW_some] <;> rfl) | (simp [*, errW_none, errW_some] <;> rfl), by repeat (first | (with_reducible first | exact HB.out | apply below_alloc | apply pw_below_drewN | apply below_drew1) | exact HB.out)⟩
  · rw [if_neg c4] at H
    have c4b0 : (t132 == t130) = false := beq_eq_false_iff_ne.mpr c4
    have c4b1 : (t132 != t130) = true := bne_iff_ne.mpr c4
    obtain rfl := Option.some.inj H
    go_enter Try.func7, Try.ntmps7
    go_wp2_with (first | ((with_reducible refine gate_callee (f := 25) rfl ?_); refine goesL_ (some 9) rfl rfl Try.func25 (by kernel_rfl) rfl #[.int .i64 a0] rfl (by (try simp only [List.map_toArray, List.map_cons, List.map_nil]); first | done | rfl | (simp only [List.length_drop, List.length_take]; rfl)) ?_; (with_reducible refine (spec_SumOfHighest.calls k a0 t130 t131 _ A2.out).mono ?_); rintro e w10 ⟨rfl, hb⟩; refine ⟨_, rfl, ?_⟩; have n0_ := Aside0.mk (below_step (by repeat (first | (with_reducible first | exact HB.out | apply below_alloc | apply pw_below_drewN | apply below_drew1) | exact HB.out)) hb); clear HB; have HB := n0_; clear n0_; (try clear hb); (try clear hb2); (try clear hk); (try clear hi)) | ((with_reducible refine gate_callee (f := 26) rfl ?_); refine goesL_ (some 14) rfl rfl Try.func26 (by kernel_rfl) rfl #[.int .i64 a0] rfl (by (try simp only [List.map_toArray, List.map_cons, List.map_nil]); first | done | rfl | (simp only [List.length_drop, List.length_take]; rfl)) ?_; (with_reducible refine (impl_SumOfHighest.calls k a0 t132 t133 _ A3.out).mono ?_); rintro e w11 ⟨rfl, hb⟩; refine ⟨_, rfl, ?_⟩; have n0_ := Aside0.mk (below_step (by repeat (first | (with_reducible first | exact HB.out | apply below_alloc | apply pw_below_drewN | apply below_drew1) | exact HB.out)) hb); clear HB; have HB := n0_; clear n0_; (try clear hb); (try clear hb2); (try clear hk); (try clear hi)))
    go_ret
    exact ⟨by first | rfl | (simp [errW_none, errW_some] <;> rfl) | (simp [*, errW_none, errW_some] <;> rfl), by repeat (first | (with_reducible first | exact HB.out | apply below_alloc | apply pw_below_drewN | apply below_drew1) | exact HB.out)⟩

/-- THE ONE PURE STATEMENT of laws_FnExactSumOfHighest: yours. -/
def laws_FnExactSumOfHighest.Pure : Prop := ∀ (a0 : Int), (Lit.int .i64 a0).wf = true → ∃ k, laws_FnExactSumOfHighest.f k a0 = some true
theorem laws_FnExactSumOfHighest.walk (P : laws_FnExactSumOfHighest.Pure) (a0 : Int) (w : World) (w0 : (Lit.int .i64 a0).wf = true) :
    Calls Try.prog 7 #[.int .i64 a0] w fun e w' => e = .returned (.bool true) ∧ Below w.heap.size w w' := by
  obtain ⟨k, h⟩ := P a0 w0
  refine (laws_FnExactSumOfHighest.calls k a0 true w h).mono ?_
  rintro e w' ⟨rfl, hd⟩
  exact ⟨rfl, hd⟩

end Go.Proofs.Ytjammocipljgfaa.QFnExactSumOfHighest
