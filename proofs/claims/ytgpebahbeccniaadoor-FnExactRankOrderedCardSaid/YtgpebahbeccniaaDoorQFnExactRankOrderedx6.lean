/- Written by a program of this repo (xprint: a turned copy of the kit's print, with our own templates in it); Lean checks all of it. -/
import Derived.Test.YtgpebahbeccniaaDoorQFnExactRankOrderedx0
import Derived.Test.YtgpebahbeccniaaDoorQFnExactRankOrderedx3
import Derived.Test.YtgpebahbeccniaaDoorQFnExactRankOrderedx4
import Derived.Test.YtgpebahbeccniaaDoorQFnExactRankOrderedx5
namespace Go.Proofs.YtgpebahbeccniaaDoor.QFnExactRankOrdered
open Go.RowKit Go.Proofs.YtgpebahbeccniaaDoorZ Go.Proofs.YtgpebahbeccniaaDoorZm Go.Maps Go.Proofs.YtgpebahbeccniaaDoorZt Go.Proofs.YtgpebahbeccniaaDoorW.PrintWords Go.Proofs.YtgpebahbeccniaaDoorW.PrintLast Go.Proofs.YtgpebahbeccniaaDoorW.PrintMore
attribute [local go_sem] max2_int min2_int max_two min_two max_three min_three max_four min_four   -- for this text's walks alone
set_option linter.unusedVariables false
set_option linter.unusedSimpArgs false

/-! ### impl_RankOrdered: function 6 -/
mutual
def impl_RankOrdered.l0 : Nat → ByteArray → Int → Int → Int → Int → Int → Int → Int → Int → Int → Int → Option (Int × Bool)
  | 0, _, _, _, _, _, _, _, _, _, _, _ => none
  | k + 1, v, t0, t1, t2, t3, a, b, c, d, rank, i => if i < (v.size : Int) then (if 0 ≤ i then impl_RankOrdered.l1 k v t0 t1 t2 t3 a b c d rank i (bt v i) 0 else none) else some (rank, true)
def impl_RankOrdered.l1 : Nat → ByteArray → Int → Int → Int → Int → Int → Int → Int → Int → Int → Int → Int → Int → Option (Int × Bool)
  | 0, _, _, _, _, _, _, _, _, _, _, _, _, _ => none
  | k + 1, v, t0, t1, t2, t3, a, b, c, d, rank, i, y, j => if j < y - 97 then ((impl_step.f 18 t0 t1 t2 t3 a b c d j).bind fun s => impl_RankOrdered.l1 k v t0 t1 t2 t3 a b c d (wrap64 (rank + s.2.2.2.2)) i y (wrap64 (j + 1))) else (if y = 97 then impl_RankOrdered.l0 k v t0 t1 t2 t3 (wrap64 (a + 1)) b c d rank (wrap64 (i + 1)) else if y = 98 then impl_RankOrdered.l0 k v t0 t1 t2 t3 a (wrap64 (b + 1)) c d rank (wrap64 (i + 1)) else if y = 99 then impl_RankOrdered.l0 k v t0 t1 t2 t3 a b (wrap64 (c + 1)) d rank (wrap64 (i + 1)) else if y = 100 then impl_RankOrdered.l0 k v t0 t1 t2 t3 a b c (wrap64 (d + 1)) rank (wrap64 (i + 1)) else none)
end
def impl_RankOrdered.f (k : Nat) (v : ByteArray) : Option (Int × Bool) := (impl_areOrderedVotes.f k v).bind fun t => (if t = true then (impl_tallyOf.f k v).bind (fun s => impl_RankOrdered.l0 200 v s.1 s.2.1 s.2.2.1 s.2.2.2 0 0 0 0 0 0) else some (0, false))
theorem impl_RankOrdered.mono : ∀ v k, LeO (impl_RankOrdered.f k v) (impl_RankOrdered.f (k + 1) v) := fun v k => LeO.bind (impl_areOrderedVotes.mono _ _) fun _ => LeO.ite (LeO.bind (impl_tallyOf.mono _ _) fun _ => LeO.refl _) (LeO.refl _)
theorem impl_RankOrdered.bn {n m : Nat} (h : n ≤ (201 - m) * 8 ^ 18) : n + 8 ^ 18 ≤ maxLen := by
  have h1 : (201 - m) * 8 ^ 18 ≤ 201 * 8 ^ 18 := Nat.mul_le_mul_right _ (by omega)
  have h2 : 201 * 8 ^ 18 + 8 ^ 18 ≤ maxLen := by decide
  omega
theorem impl_RankOrdered.bs {n n' m : Nat} (hm : m + 1 ≤ 200) (h : n ≤ (201 - (m + 1)) * 8 ^ 18) (h' : n' < n + 8 ^ 18) : n' ≤ (201 - m) * 8 ^ 18 := by
  have h1 : (201 - m) * 8 ^ 18 = (201 - (m + 1)) * 8 ^ 18 + 8 ^ 18 := by rw [show 201 - m = (201 - (m + 1)) + 1 by omega, Nat.add_mul, Nat.one_mul]
  omega
theorem impl_RankOrdered.bm {n m m' : Nat} (h : n ≤ (201 - m) * 8 ^ 18) (hm : m' ≤ m) : n ≤ (201 - m') * 8 ^ 18 := Nat.le_trans h (Nat.mul_le_mul_right _ (by omega))
/-- The letter is one of four, if the rounds behind it tell something. -/
theorem impl_RankOrdered.four {v : ByteArray} {t0 t1 t2 t3 a b c d i y : Int} {r : Int × Bool} (hy : 0 ≤ y ∧ y ≤ 255) : ∀ (k : Nat) {rank j : Int}, impl_RankOrdered.l1 k v t0 t1 t2 t3 a b c d rank i y j = some r → 0 ≤ j → y = 97 ∨ y = 98 ∨ y = 99 ∨ y = 100
  | 0, rank, j, h, _ => by simp [impl_RankOrdered.l1] at h
  | k + 1, rank, j, h, hj => by
    have h : (if j < y - 97 then ((impl_step.f 18 t0 t1 t2 t3 a b c d j).bind fun s => impl_RankOrdered.l1 k v t0 t1 t2 t3 a b c d (wrap64 (rank + s.2.2.2.2)) i y (wrap64 (j + 1))) else (if y = 97 then impl_RankOrdered.l0 k v t0 t1 t2 t3 (wrap64 (a + 1)) b c d rank (wrap64 (i + 1)) else if y = 98 then impl_RankOrdered.l0 k v t0 t1 t2 t3 a (wrap64 (b + 1)) c d rank (wrap64 (i + 1)) else if y = 99 then impl_RankOrdered.l0 k v t0 t1 t2 t3 a b (wrap64 (c + 1)) d rank (wrap64 (i + 1)) else if y = 100 then impl_RankOrdered.l0 k v t0 t1 t2 t3 a b c (wrap64 (d + 1)) rank (wrap64 (i + 1)) else none)) = some r := h
    by_cases e : j < y - 97
    · rw [if_pos e] at h
      obtain ⟨s, _, h⟩ := Option.bind_eq_some_iff.mp h
      exact impl_RankOrdered.four hy k h (by unfold wrap64; omega)
    · rw [if_neg e] at h
      by_cases e0 : y = 97
      · exact .inl e0
      rw [if_neg e0] at h
      by_cases e1 : y = 98
      · exact .inr (.inl e1)
      rw [if_neg e1] at h
      by_cases e2 : y = 99
      · exact .inr (.inr (.inl e2))
      rw [if_neg e2] at h
      by_cases e3 : y = 100
      · exact .inr (.inr (.inr e3))
      rw [if_neg e3] at h
      cases h
theorem impl_RankOrdered.wfs {k : Nat} {g0 g1 g2 g3 a b c d i : Int} {s : Int × Int × Int × Int × Int} (h : impl_step.f k g0 g1 g2 g3 a b c d i = some s) : ∃ r1 r2 r3 r4 r5, s = (r1, r2, r3, r4, r5) ∧ impl_step.f k g0 g1 g2 g3 a b c d i = some (r1, r2, r3, r4, r5) := ⟨s.1, s.2.1, s.2.2.1, s.2.2.2.1, s.2.2.2.2, rfl, h⟩
set_option maxHeartbeats 8000000 in
set_option maxRecDepth 100000 in
theorem impl_RankOrdered.calls (k : Nat) (a0 : ByteArray) (r1 : Int) (r2 : Bool) (w : World) (h : impl_RankOrdered.f k a0 = some (r1, r2)) :
    Calls Tryd.prog 6 #[.string a0] w fun e w' => e = .returned (.tuple #[.int .i64 r1, .bool r2]) ∧ Below w.heap.size w w' := by
  have heg : ∀ (args : Array Value) (w : World), (callFunc 39 args).run Tryd.prog w = .ok (.enter 39 args) w := impl_votesOn_2.enters
  obtain ⟨tt, A0, h2⟩ := Option.bind_eq_some_iff.mp h
  have HO := Aside0.mk A0
  clear h A0
  by_cases ct : tt = true
  · subst ct
    rw [if_pos rfl] at h2
    obtain ⟨⟨t0, t1, t2, t3⟩, A1, h3⟩ := Option.bind_eq_some_iff.mp h2
    dsimp only at h3
    have HT := Aside0.mk A1
    have H2 := Aside0.mk h3
    clear h2 A1 h3
    go_enter Tryd.func6, Tryd.ntmps6
    go_upto_region 5 with (first | (go_at_call 18; refine (impl_areOrderedVotes.calls k a0 true _ HO.out).mono ?_; rintro e w1 ⟨rfl, hb⟩; have HB1 := Aside0.mk hb; clear hb) | (go_at_call 19; refine (impl_tallyOf.calls k a0 t0 t1 t2 t3 _ HT.out).mono ?_; rintro e w2 ⟨rfl, hb⟩; have HB2 := Aside0.mk (below_step HB1.out hb); clear hb) | ((with_reducible refine gate_dst (N := 4) rfl ?_); refine box_event ?hg (N := 4) ?hd (cs := #[.int .i64 0, .int .i64 0, .int .i64 0, .int .i64 0]) (t := 39) ?hr ?_; (case hd => rfl); (case hg => rfl); (case hr => first | (go_simp; done) | (go_simp; rfl)); intro gg hgg w3 hbox hb; have HBG := Aside0.mk hbox; have HB3 := Aside0.mk (below_step HB2.out hb); have HGG := Aside0.mk (show w.heap.size ≤ gg from hgg ▸ HB2.out.size); clear hgg hb hbox) | ((with_reducible refine gate_dst (N := 5) rfl ?_); refine box_event ?hg (N := 5) ?hd (cs := #[.int .i64 0, .int .i64 0, .int .i64 0, .int .i64 0]) (t := 39) ?hr ?_; (case hd => rfl); (case hg => rfl); (case hr => first | (go_simp; done) | (go_simp; rfl)); intro gn hgn w4 hbox hb; have HBN := Aside0.mk hbox; have HGN := Aside0.mk (show w.heap.size ≤ gn ∧ gg < gn from ⟨hgn ▸ HB3.out.size, hgn ▸ blk_lt HBG.out⟩); have HB4 := Aside0.mk (below_step HB3.out hb); have HBG4 := Aside0.mk (blk_below HBG.out hb); clear hgn hb hbox) | ((with_reducible refine gate_store (t := 39) (p := 4) rfl ?_); refine zStoreBox4 (t := 39) (y0 := t0) (y1 := t1) (y2 := t2) (y3 := t3) rfl rfl rfl (by kernel_rfl) rfl rfl HBG4.out ?_; intro w5 hs hg; have HBG5 := Aside0.mk hs; have HBN5 := Aside0.mk (blk_grown HBN.out hg (fun e => by injection e with e; have := HGN.out.2; omega)); have HB5 := Aside0.mk (HB4.out.grown hg HB4.out.size (fun j e => by injection e with e; subst e; exact HGG.out)); clear hs hg) | ((with_reducible refine gate_store (t := 39) (p := 5) rfl ?_); refine zStoreBox4 (t := 39) (y0 := 0) (y1 := 0) (y2 := 0) (y3 := 0) rfl rfl rfl (by kernel_rfl) rfl rfl HBN5.out ?_; intro w6 hs hg; have HBN6 := Aside0.mk hs; have HBG6 := Aside0.mk (blk_grown HBG5.out hg (fun e => by injection e with e; have := HGN.out.2; omega)); have HB6 := Aside0.mk (HB5.out.grown hg HB5.out.size (fun j e => by injection e with e; subst e; exact HGN.out.1)); clear hs hg) | ((with_reducible refine gate_dst (N := 18) rfl ?_); refine zLoadBox4 (t := 39) (e := 3) rfl rfl Tryd.underlying39 (by kernel_rfl) rfl HBG6.out ?_) | (go_at_call 20; refine (impl_votesOn.calls t0 t1 t2 t3 _).mono ?_; rintro e w7 ⟨bg, bk, bf, B, rfl, hE, l1, l2, l3, l4, hb⟩; have HE7 := Aside0.mk hE; have HLs := Aside0.mk (And.intro l1 (And.intro l2 (And.intro l3 l4))); have HB7 := Aside0.mk (below_step HB6.out hb); have HBG7 := Aside0.mk (blk_below HBG6.out hb); have HBN7 := Aside0.mk (blk_below HBN6.out hb); clear hE l1 l2 l3 l4 hb))
    have HGO := Aside0.mk (show gg ≠ bg ∧ gg ≠ bk ∧ gg ≠ bf ∧ gg ≠ B by have h1 := blk_lt HBG6.out; have h2 := HLs.out; omega)
    have HNO := Aside0.mk (show gn ≠ bg ∧ gn ≠ bk ∧ gn ≠ bf ∧ gn ≠ B by have h1 := blk_lt HBN6.out; have h2 := HLs.out; omega)
    have HNG := Aside0.mk (show gn ≠ gg by have h1 := HGN.out; omega)
    have HWB := Aside0.mk (show w.heap.size ≤ B by have h1 := HB6.out.size; have h2 := HLs.out; omega)
    have HWN := Aside0.mk HGN.out.1
    clear HB1 HB2 HBG HB3 HBN HB4 HBG4 HBG5 HBN5 HB5 HBN6 HBG6 HB6 HLs HO HT
    go_wp2
    go_loopg [6, 22] 200 (fun kq v6 v22 w' => ∃ (a b c d rank i : Int) (m : Nat), v6 = .int .i64 rank ∧ v22 = .int .i64 i ∧ Aside0 (impl_RankOrdered.l0 kq a0 t0 t1 t2 t3 a b c d rank i = some (r1, r2)) ∧ Aside0 (kq ≤ 200) ∧ Aside0 (impl_votesOn_2.Env w' bg bk bf B t0 t1 t2 t3 m) ∧ Aside0 (m ≤ (201 - kq) * 8 ^ 18) ∧ Aside0 (w'.heap[gg]? = some (.cells #[.int .i64 t0, .int .i64 t1, .int .i64 t2, .int .i64 t3] 39 (0, 0))) ∧ Aside0 (w'.heap[gn]? = some (.cells #[.int .i64 a, .int .i64 b, .int .i64 c, .int .i64 d] 39 (0, 0))) ∧ Aside0 ((Lit.int .i64 a).wf = true ∧ (Lit.int .i64 b).wf = true ∧ (Lit.int .i64 c).wf = true ∧ (Lit.int .i64 d).wf = true) ∧ Aside0 (Below w.heap.size w w'))
    case atStart => exact ⟨0, 0, 0, 0, 0, 0, 0, rfl, rfl, H2, ⟨Nat.le_refl _⟩, HE7, ⟨Nat.zero_le _⟩, HBG7, HBN7, ⟨by decide, by decide, by decide, by decide⟩, HB7⟩
    case round =>
      clear H2 HE7 HBG7 HBN7 HB7
      obtain ⟨a, b, c, d, rank, i, m, rfl, rfl, HA, HK, HE, HM, BG, BN, WF, HB⟩ := hrel
      cases gk with
      | zero => exact absurd HA.out (by simp [impl_RankOrdered.l0])
      | succ k1 =>
        have H : (if i < (a0.size : Int) then (if 0 ≤ i then impl_RankOrdered.l1 k1 a0 t0 t1 t2 t3 a b c d rank i (bt a0 i) 0 else none) else some (rank, true)) = some (r1, r2) := HA.out
        clear HA
        by_cases c6 : i < (a0.size : Int)
        · rw [if_pos c6] at H
          have c6b0 : decide (i < (a0.size : Int)) = true := decide_eq_true c6
          by_cases c7 : 0 ≤ i
          · rw [if_pos c7] at H
            have p11 : (0 ≤ i) = True := eq_true c7
            have q11 : (i < (a0.size : Int)) = True := eq_true c6
            have hx11 := bt_at a0 i
            have hy := impl_RankOrdered.four (bt_range a0 i) k1 H (by decide)
            clear c6 c7
            obtain ⟨y, hyy⟩ : ∃ y, y = bt a0 i := ⟨_, rfl⟩
            rw [← hyy] at H hy
            have HH := Aside0.mk H
            clear H
            rcases hy with rfl | rfl | rfl | rfl
            · have hyb := hyy.symm
              clear hyy
              rw [hyb] at hx11
              go_wp2
              go_loopg [6, 30] k1 (fun kq v6 v30 w' => ∃ (rk j : Int) (m : Nat), v6 = .int .i64 rk ∧ v30 = .int .i64 j ∧ Aside0 (impl_RankOrdered.l1 kq a0 t0 t1 t2 t3 a b c d rk i 97 j = some (r1, r2)) ∧ Aside0 (kq ≤ k1) ∧ Aside0 (impl_votesOn_2.Env w' bg bk bf B t0 t1 t2 t3 m) ∧ Aside0 (m ≤ (201 - kq) * 8 ^ 18) ∧ Aside0 (w'.heap[gg]? = some (.cells #[.int .i64 t0, .int .i64 t1, .int .i64 t2, .int .i64 t3] 39 (0, 0))) ∧ Aside0 (w'.heap[gn]? = some (.cells #[.int .i64 a, .int .i64 b, .int .i64 c, .int .i64 d] 39 (0, 0))) ∧ Aside0 (Below w.heap.size w w'))
              case atStart => exact ⟨rank, 0, m, rfl, rfl, HH, ⟨Nat.le_refl _⟩, HE, ⟨impl_RankOrdered.bm HM.out (Nat.le_succ _)⟩, BG, BN, HB⟩
              case round =>
                clear HH HE HM BG BN HB
                obtain ⟨rk, j, m2, rfl, rfl, HA, HK2, HE, HM, BG, BN, HB⟩ := hrel
                cases gk with
                | zero => exact absurd HA.out (by simp [impl_RankOrdered.l1])
                | succ k2 =>
                  have H : (if j < (97 : Int) - 97 then ((impl_step.f 18 t0 t1 t2 t3 a b c d j).bind fun s => impl_RankOrdered.l1 k2 a0 t0 t1 t2 t3 a b c d (wrap64 (rk + s.2.2.2.2)) i 97 (wrap64 (j + 1))) else (if (97 : Int) = 97 then impl_RankOrdered.l0 k2 a0 t0 t1 t2 t3 (wrap64 (a + 1)) b c d rk (wrap64 (i + 1)) else if (97 : Int) = 98 then impl_RankOrdered.l0 k2 a0 t0 t1 t2 t3 a (wrap64 (b + 1)) c d rk (wrap64 (i + 1)) else if (97 : Int) = 99 then impl_RankOrdered.l0 k2 a0 t0 t1 t2 t3 a b (wrap64 (c + 1)) d rk (wrap64 (i + 1)) else if (97 : Int) = 100 then impl_RankOrdered.l0 k2 a0 t0 t1 t2 t3 a b c (wrap64 (d + 1)) rk (wrap64 (i + 1)) else none)) = some (r1, r2) := HA.out
                  clear HA
                  rw [show (97 : Int) - 97 = 0 from rfl] at H
                  by_cases c8 : j < 0
                  · rw [if_pos c8] at H
                    obtain ⟨s, A7, H⟩ := Option.bind_eq_some_iff.mp H
                    obtain ⟨b0, b1, b2, b3, qq, rfl, A8⟩ := impl_RankOrdered.wfs A7
                    have HA8 := Aside0.mk A8
                    have HH := Aside0.mk H
                    clear A7 A8 H
                    have c8b0 : decide (j < 0) = true := decide_eq_true c8
                    clear c8
                    go_wp2_with (first | ((with_reducible refine gate_dst (N := 35) rfl ?_); refine zLoadBox4 (t := 39) (e := 3) rfl rfl Tryd.underlying39 (by kernel_rfl) rfl BG.out ?_) | ((with_reducible refine gate_dst (N := 36) rfl ?_); refine zLoadBox4 (t := 39) (e := 3) rfl rfl Tryd.underlying39 (by kernel_rfl) rfl BN.out ?_) | (go_at_call 21; refine (impl_step.calls (bg := bg) (bk := bk) (bf := bf) (B := B) (n := m2) t0 t1 t2 t3 a b c d j b0 b1 b2 b3 qq 18 _ HE.out (impl_RankOrdered.bn HM.out) WF.out.1 WF.out.2.1 WF.out.2.2.1 WF.out.2.2.2 HA8.out).mono ?_; rintro e w9 ⟨rfl, hg, m9, hm9, hE9⟩; have HG9 := Aside0.mk hg; have HM9 := Aside0.mk hm9; have HE9 := Aside0.mk hE9; clear hg hm9 hE9) | ((with_reducible refine gate_dst (N := 10) rfl ?_); refine box_event ?hg (N := 10) ?hd (cs := #[.int .i64 0, .int .i64 0, .int .i64 0, .int .i64 0]) (t := 39) ?hr ?_; (case hd => rfl); (case hg => rfl); (case hr => first | (go_simp; done) | (go_simp; rfl)); intro gx hgx w10 hbox hb; have HBX := Aside0.mk hbox; have HGX := Aside0.mk (Nat.le_of_eq hgx.symm : w9.heap.size ≤ gx); have HB10 := Aside0.mk hb; clear hgx hb hbox) | ((with_reducible refine gate_store (t := 39) (p := 10) rfl ?_); refine zStoreBox4 (t := 39) (y0 := b0) (y1 := b1) (y2 := b2) (y3 := b3) rfl rfl rfl (by kernel_rfl) rfl rfl HBX.out ?_; intro w11 hs hg; have HBX11 := Aside0.mk hs; have HG11 := Aside0.mk hg; clear hs hg))
                    have HB11 := Aside0.mk (HB10.out.grown HG11.out HB10.out.size (fun j e => by injection e with e; subst e; exact HGX.out))
                    go_roundg k2
                    case measure => omega
                    case rel => exact ⟨wrap64 (rk + qq), wrap64 (j + 1), m9, rfl, rfl, HH, ⟨by have := HK2.out; omega⟩, ⟨HE9.out.below HB11.out⟩, ⟨impl_RankOrdered.bs (by have h1 := HK.out; have h2 := HK2.out; omega) HM.out HM9.out⟩, ⟨blk_below (blk_grown BG.out HG9.out (fun e => HGO.out.2.2.2 (Option.some.inj e))) HB11.out⟩, ⟨blk_below (blk_grown BN.out HG9.out (fun e => HNO.out.2.2.2 (Option.some.inj e))) HB11.out⟩, ⟨below_step (HB.out.grown HG9.out HB.out.size (fun j e => by injection e with e; subst e; exact HWB.out)) HB11.out⟩⟩
                  · rw [if_neg c8] at H
                    have c8b0 : decide (j < 0) = false := decide_eq_false c8
                    clear c8
                    obtain ⟨x, hx⟩ : ∃ x, x = wrap64 (a + 1) := ⟨_, rfl⟩
                    have H3 : impl_RankOrdered.l0 k2 a0 t0 t1 t2 t3 x b c d rk (wrap64 (i + 1)) = some (r1, r2) := by rw [hx]; rw [if_pos rfl] at H; exact H
                    have HH := Aside0.mk H3
                    have HX1 := Aside0.mk hx
                    have wx : (Lit.int .i64 x).wf = true := by rw [hx]; exact wrap64_wf _
                    clear H H3 hx
                    go_wp2_with (first | ((with_reducible refine gate_dst (N := 49) rfl ?_); refine zIndexAt (i := 0) (n := 4) (t := 39) (e := 3) rfl rfl Tryd.underlying39 (by kernel_rfl) rfl rfl rfl (by decide) ?_) | ((with_reducible refine gate_dst (N := 50) rfl ?_); refine zLoadAt (t := 3) (k := .i64) (x := a) rfl rfl Tryd.underlying3 rfl BN.out rfl ?_) | ((with_reducible refine gate_dst (N := 52) rfl ?_); refine zIndexAt (i := 0) (n := 4) (t := 39) (e := 3) rfl rfl Tryd.underlying39 (by kernel_rfl) rfl rfl rfl (by decide) ?_) | ((with_reducible refine gate_store (t := 3) (p := 52) rfl ?_); refine zStoreAt (t := 3) (k := .i64) (x := x) rfl rfl rfl (by kernel_rfl) rfl (by rw [HX1.out]; first | rfl | (rw [← i64_w]; rfl) | (go_simp; done)) BN.out (show 0 < 4 by decide) ?_; intro w9 hs hg; have BN9 := Aside0.mk (show w9.heap[gn]? = some (.cells #[.int .i64 x, .int .i64 b, .int .i64 c, .int .i64 d] 39 (0, 0)) from hs); have HG9 := Aside0.mk hg; clear hs hg))
                    go_roundg k2
                    case measure => have := HK2.out; omega
                    case rel => exact ⟨x, b, c, d, rk, wrap64 (i + 1), m2, rfl, rfl, HH, ⟨by have h1 := HK.out; have h2 := HK2.out; omega⟩, ⟨HE.out.grown HG9.out HNO.out⟩, ⟨impl_RankOrdered.bm HM.out (Nat.le_succ _)⟩, ⟨blk_grown BG.out HG9.out (fun e => HNG.out (Option.some.inj e).symm)⟩, BN9, ⟨wx, WF.out.2.1, WF.out.2.2.1, WF.out.2.2.2⟩, ⟨HB.out.grown HG9.out HB.out.size (fun j e => by injection e with e; subst e; exact HWN.out)⟩⟩
            · have hyb := hyy.symm
              clear hyy
              rw [hyb] at hx11
              go_wp2
              go_loopg [6, 30] k1 (fun kq v6 v30 w' => ∃ (rk j : Int) (m : Nat), v6 = .int .i64 rk ∧ v30 = .int .i64 j ∧ Aside0 (impl_RankOrdered.l1 kq a0 t0 t1 t2 t3 a b c d rk i 98 j = some (r1, r2)) ∧ Aside0 (kq ≤ k1) ∧ Aside0 (impl_votesOn_2.Env w' bg bk bf B t0 t1 t2 t3 m) ∧ Aside0 (m ≤ (201 - kq) * 8 ^ 18) ∧ Aside0 (w'.heap[gg]? = some (.cells #[.int .i64 t0, .int .i64 t1, .int .i64 t2, .int .i64 t3] 39 (0, 0))) ∧ Aside0 (w'.heap[gn]? = some (.cells #[.int .i64 a, .int .i64 b, .int .i64 c, .int .i64 d] 39 (0, 0))) ∧ Aside0 (Below w.heap.size w w'))
              case atStart => exact ⟨rank, 0, m, rfl, rfl, HH, ⟨Nat.le_refl _⟩, HE, ⟨impl_RankOrdered.bm HM.out (Nat.le_succ _)⟩, BG, BN, HB⟩
              case round =>
                clear HH HE HM BG BN HB
                obtain ⟨rk, j, m2, rfl, rfl, HA, HK2, HE, HM, BG, BN, HB⟩ := hrel
                cases gk with
                | zero => exact absurd HA.out (by simp [impl_RankOrdered.l1])
                | succ k2 =>
                  have H : (if j < (98 : Int) - 97 then ((impl_step.f 18 t0 t1 t2 t3 a b c d j).bind fun s => impl_RankOrdered.l1 k2 a0 t0 t1 t2 t3 a b c d (wrap64 (rk + s.2.2.2.2)) i 98 (wrap64 (j + 1))) else (if (98 : Int) = 97 then impl_RankOrdered.l0 k2 a0 t0 t1 t2 t3 (wrap64 (a + 1)) b c d rk (wrap64 (i + 1)) else if (98 : Int) = 98 then impl_RankOrdered.l0 k2 a0 t0 t1 t2 t3 a (wrap64 (b + 1)) c d rk (wrap64 (i + 1)) else if (98 : Int) = 99 then impl_RankOrdered.l0 k2 a0 t0 t1 t2 t3 a b (wrap64 (c + 1)) d rk (wrap64 (i + 1)) else if (98 : Int) = 100 then impl_RankOrdered.l0 k2 a0 t0 t1 t2 t3 a b c (wrap64 (d + 1)) rk (wrap64 (i + 1)) else none)) = some (r1, r2) := HA.out
                  clear HA
                  rw [show (98 : Int) - 97 = 1 from rfl] at H
                  by_cases c8 : j < 1
                  · rw [if_pos c8] at H
                    obtain ⟨s, A7, H⟩ := Option.bind_eq_some_iff.mp H
                    obtain ⟨b0, b1, b2, b3, qq, rfl, A8⟩ := impl_RankOrdered.wfs A7
                    have HA8 := Aside0.mk A8
                    have HH := Aside0.mk H
                    clear A7 A8 H
                    have c8b0 : decide (j < 1) = true := decide_eq_true c8
                    clear c8
                    go_wp2_with (first | ((with_reducible refine gate_dst (N := 35) rfl ?_); refine zLoadBox4 (t := 39) (e := 3) rfl rfl Tryd.underlying39 (by kernel_rfl) rfl BG.out ?_) | ((with_reducible refine gate_dst (N := 36) rfl ?_); refine zLoadBox4 (t := 39) (e := 3) rfl rfl Tryd.underlying39 (by kernel_rfl) rfl BN.out ?_) | (go_at_call 21; refine (impl_step.calls (bg := bg) (bk := bk) (bf := bf) (B := B) (n := m2) t0 t1 t2 t3 a b c d j b0 b1 b2 b3 qq 18 _ HE.out (impl_RankOrdered.bn HM.out) WF.out.1 WF.out.2.1 WF.out.2.2.1 WF.out.2.2.2 HA8.out).mono ?_; rintro e w9 ⟨rfl, hg, m9, hm9, hE9⟩; have HG9 := Aside0.mk hg; have HM9 := Aside0.mk hm9; have HE9 := Aside0.mk hE9; clear hg hm9 hE9) | ((with_reducible refine gate_dst (N := 10) rfl ?_); refine box_event ?hg (N := 10) ?hd (cs := #[.int .i64 0, .int .i64 0, .int .i64 0, .int .i64 0]) (t := 39) ?hr ?_; (case hd => rfl); (case hg => rfl); (case hr => first | (go_simp; done) | (go_simp; rfl)); intro gx hgx w10 hbox hb; have HBX := Aside0.mk hbox; have HGX := Aside0.mk (Nat.le_of_eq hgx.symm : w9.heap.size ≤ gx); have HB10 := Aside0.mk hb; clear hgx hb hbox) | ((with_reducible refine gate_store (t := 39) (p := 10) rfl ?_); refine zStoreBox4 (t := 39) (y0 := b0) (y1 := b1) (y2 := b2) (y3 := b3) rfl rfl rfl (by kernel_rfl) rfl rfl HBX.out ?_; intro w11 hs hg; have HBX11 := Aside0.mk hs; have HG11 := Aside0.mk hg; clear hs hg))
                    have HB11 := Aside0.mk (HB10.out.grown HG11.out HB10.out.size (fun j e => by injection e with e; subst e; exact HGX.out))
                    go_roundg k2
                    case measure => omega
                    case rel => exact ⟨wrap64 (rk + qq), wrap64 (j + 1), m9, rfl, rfl, HH, ⟨by have := HK2.out; omega⟩, ⟨HE9.out.below HB11.out⟩, ⟨impl_RankOrdered.bs (by have h1 := HK.out; have h2 := HK2.out; omega) HM.out HM9.out⟩, ⟨blk_below (blk_grown BG.out HG9.out (fun e => HGO.out.2.2.2 (Option.some.inj e))) HB11.out⟩, ⟨blk_below (blk_grown BN.out HG9.out (fun e => HNO.out.2.2.2 (Option.some.inj e))) HB11.out⟩, ⟨below_step (HB.out.grown HG9.out HB.out.size (fun j e => by injection e with e; subst e; exact HWB.out)) HB11.out⟩⟩
                  · rw [if_neg c8] at H
                    have c8b0 : decide (j < 1) = false := decide_eq_false c8
                    clear c8
                    obtain ⟨x, hx⟩ : ∃ x, x = wrap64 (b + 1) := ⟨_, rfl⟩
                    have H3 : impl_RankOrdered.l0 k2 a0 t0 t1 t2 t3 a x c d rk (wrap64 (i + 1)) = some (r1, r2) := by rw [hx]; rw [if_neg (by decide)] at H; rw [if_pos rfl] at H; exact H
                    have HH := Aside0.mk H3
                    have HX1 := Aside0.mk hx
                    have wx : (Lit.int .i64 x).wf = true := by rw [hx]; exact wrap64_wf _
                    clear H H3 hx
                    go_wp2_with (first | ((with_reducible refine gate_dst (N := 49) rfl ?_); refine zIndexAt (i := 1) (n := 4) (t := 39) (e := 3) rfl rfl Tryd.underlying39 (by kernel_rfl) rfl rfl rfl (by decide) ?_) | ((with_reducible refine gate_dst (N := 50) rfl ?_); refine zLoadAt (t := 3) (k := .i64) (x := b) rfl rfl Tryd.underlying3 rfl BN.out rfl ?_) | ((with_reducible refine gate_dst (N := 52) rfl ?_); refine zIndexAt (i := 1) (n := 4) (t := 39) (e := 3) rfl rfl Tryd.underlying39 (by kernel_rfl) rfl rfl rfl (by decide) ?_) | ((with_reducible refine gate_store (t := 3) (p := 52) rfl ?_); refine zStoreAt (t := 3) (k := .i64) (x := x) rfl rfl rfl (by kernel_rfl) rfl (by rw [HX1.out]; first | rfl | (rw [← i64_w]; rfl) | (go_simp; done)) BN.out (show 1 < 4 by decide) ?_; intro w9 hs hg; have BN9 := Aside0.mk (show w9.heap[gn]? = some (.cells #[.int .i64 a, .int .i64 x, .int .i64 c, .int .i64 d] 39 (0, 0)) from hs); have HG9 := Aside0.mk hg; clear hs hg))
                    go_roundg k2
                    case measure => have := HK2.out; omega
                    case rel => exact ⟨a, x, c, d, rk, wrap64 (i + 1), m2, rfl, rfl, HH, ⟨by have h1 := HK.out; have h2 := HK2.out; omega⟩, ⟨HE.out.grown HG9.out HNO.out⟩, ⟨impl_RankOrdered.bm HM.out (Nat.le_succ _)⟩, ⟨blk_grown BG.out HG9.out (fun e => HNG.out (Option.some.inj e).symm)⟩, BN9, ⟨WF.out.1, wx, WF.out.2.2.1, WF.out.2.2.2⟩, ⟨HB.out.grown HG9.out HB.out.size (fun j e => by injection e with e; subst e; exact HWN.out)⟩⟩
            · have hyb := hyy.symm
              clear hyy
              rw [hyb] at hx11
              go_wp2
              go_loopg [6, 30] k1 (fun kq v6 v30 w' => ∃ (rk j : Int) (m : Nat), v6 = .int .i64 rk ∧ v30 = .int .i64 j ∧ Aside0 (impl_RankOrdered.l1 kq a0 t0 t1 t2 t3 a b c d rk i 99 j = some (r1, r2)) ∧ Aside0 (kq ≤ k1) ∧ Aside0 (impl_votesOn_2.Env w' bg bk bf B t0 t1 t2 t3 m) ∧ Aside0 (m ≤ (201 - kq) * 8 ^ 18) ∧ Aside0 (w'.heap[gg]? = some (.cells #[.int .i64 t0, .int .i64 t1, .int .i64 t2, .int .i64 t3] 39 (0, 0))) ∧ Aside0 (w'.heap[gn]? = some (.cells #[.int .i64 a, .int .i64 b, .int .i64 c, .int .i64 d] 39 (0, 0))) ∧ Aside0 (Below w.heap.size w w'))
              case atStart => exact ⟨rank, 0, m, rfl, rfl, HH, ⟨Nat.le_refl _⟩, HE, ⟨impl_RankOrdered.bm HM.out (Nat.le_succ _)⟩, BG, BN, HB⟩
              case round =>
                clear HH HE HM BG BN HB
                obtain ⟨rk, j, m2, rfl, rfl, HA, HK2, HE, HM, BG, BN, HB⟩ := hrel
                cases gk with
                | zero => exact absurd HA.out (by simp [impl_RankOrdered.l1])
                | succ k2 =>
                  have H : (if j < (99 : Int) - 97 then ((impl_step.f 18 t0 t1 t2 t3 a b c d j).bind fun s => impl_RankOrdered.l1 k2 a0 t0 t1 t2 t3 a b c d (wrap64 (rk + s.2.2.2.2)) i 99 (wrap64 (j + 1))) else (if (99 : Int) = 97 then impl_RankOrdered.l0 k2 a0 t0 t1 t2 t3 (wrap64 (a + 1)) b c d rk (wrap64 (i + 1)) else if (99 : Int) = 98 then impl_RankOrdered.l0 k2 a0 t0 t1 t2 t3 a (wrap64 (b + 1)) c d rk (wrap64 (i + 1)) else if (99 : Int) = 99 then impl_RankOrdered.l0 k2 a0 t0 t1 t2 t3 a b (wrap64 (c + 1)) d rk (wrap64 (i + 1)) else if (99 : Int) = 100 then impl_RankOrdered.l0 k2 a0 t0 t1 t2 t3 a b c (wrap64 (d + 1)) rk (wrap64 (i + 1)) else none)) = some (r1, r2) := HA.out
                  clear HA
                  rw [show (99 : Int) - 97 = 2 from rfl] at H
                  by_cases c8 : j < 2
                  · rw [if_pos c8] at H
                    obtain ⟨s, A7, H⟩ := Option.bind_eq_some_iff.mp H
                    obtain ⟨b0, b1, b2, b3, qq, rfl, A8⟩ := impl_RankOrdered.wfs A7
                    have HA8 := Aside0.mk A8
                    have HH := Aside0.mk H
                    clear A7 A8 H
                    have c8b0 : decide (j < 2) = true := decide_eq_true c8
                    clear c8
                    go_wp2_with (first | ((with_reducible refine gate_dst (N := 35) rfl ?_); refine zLoadBox4 (t := 39) (e := 3) rfl rfl Tryd.underlying39 (by kernel_rfl) rfl BG.out ?_) | ((with_reducible refine gate_dst (N := 36) rfl ?_); refine zLoadBox4 (t := 39) (e := 3) rfl rfl Tryd.underlying39 (by kernel_rfl) rfl BN.out ?_) | (go_at_call 21; refine (impl_step.calls (bg := bg) (bk := bk) (bf := bf) (B := B) (n := m2) t0 t1 t2 t3 a b c d j b0 b1 b2 b3 qq 18 _ HE.out (impl_RankOrdered.bn HM.out) WF.out.1 WF.out.2.1 WF.out.2.2.1 WF.out.2.2.2 HA8.out).mono ?_; rintro e w9 ⟨rfl, hg, m9, hm9, hE9⟩; have HG9 := Aside0.mk hg; have HM9 := Aside0.mk hm9; have HE9 := Aside0.mk hE9; clear hg hm9 hE9) | ((with_reducible refine gate_dst (N := 10) rfl ?_); refine box_event ?hg (N := 10) ?hd (cs := #[.int .i64 0, .int .i64 0, .int .i64 0, .int .i64 0]) (t := 39) ?hr ?_; (case hd => rfl); (case hg => rfl); (case hr => first | (go_simp; done) | (go_simp; rfl)); intro gx hgx w10 hbox hb; have HBX := Aside0.mk hbox; have HGX := Aside0.mk (Nat.le_of_eq hgx.symm : w9.heap.size ≤ gx); have HB10 := Aside0.mk hb; clear hgx hb hbox) | ((with_reducible refine gate_store (t := 39) (p := 10) rfl ?_); refine zStoreBox4 (t := 39) (y0 := b0) (y1 := b1) (y2 := b2) (y3 := b3) rfl rfl rfl (by kernel_rfl) rfl rfl HBX.out ?_; intro w11 hs hg; have HBX11 := Aside0.mk hs; have HG11 := Aside0.mk hg; clear hs hg))
                    have HB11 := Aside0.mk (HB10.out.grown HG11.out HB10.out.size (fun j e => by injection e with e; subst e; exact HGX.out))
                    go_roundg k2
                    case measure => omega
                    case rel => exact ⟨wrap64 (rk + qq), wrap64 (j + 1), m9, rfl, rfl, HH, ⟨by have := HK2.out; omega⟩, ⟨HE9.out.below HB11.out⟩, ⟨impl_RankOrdered.bs (by have h1 := HK.out; have h2 := HK2.out; omega) HM.out HM9.out⟩, ⟨blk_below (blk_grown BG.out HG9.out (fun e => HGO.out.2.2.2 (Option.some.inj e))) HB11.out⟩, ⟨blk_below (blk_grown BN.out HG9.out (fun e => HNO.out.2.2.2 (Option.some.inj e))) HB11.out⟩, ⟨below_step (HB.out.grown HG9.out HB.out.size (fun j e => by injection e with e; subst e; exact HWB.out)) HB11.out⟩⟩
                  · rw [if_neg c8] at H
                    have c8b0 : decide (j < 2) = false := decide_eq_false c8
                    clear c8
                    obtain ⟨x, hx⟩ : ∃ x, x = wrap64 (c + 1) := ⟨_, rfl⟩
                    have H3 : impl_RankOrdered.l0 k2 a0 t0 t1 t2 t3 a b x d rk (wrap64 (i + 1)) = some (r1, r2) := by rw [hx]; rw [if_neg (by decide)] at H; rw [if_neg (by decide)] at H; rw [if_pos rfl] at H; exact H
                    have HH := Aside0.mk H3
                    have HX1 := Aside0.mk hx
                    have wx : (Lit.int .i64 x).wf = true := by rw [hx]; exact wrap64_wf _
                    clear H H3 hx
                    go_wp2_with (first | ((with_reducible refine gate_dst (N := 49) rfl ?_); refine zIndexAt (i := 2) (n := 4) (t := 39) (e := 3) rfl rfl Tryd.underlying39 (by kernel_rfl) rfl rfl rfl (by decide) ?_) | ((with_reducible refine gate_dst (N := 50) rfl ?_); refine zLoadAt (t := 3) (k := .i64) (x := c) rfl rfl Tryd.underlying3 rfl BN.out rfl ?_) | ((with_reducible refine gate_dst (N := 52) rfl ?_); refine zIndexAt (i := 2) (n := 4) (t := 39) (e := 3) rfl rfl Tryd.underlying39 (by kernel_rfl) rfl rfl rfl (by decide) ?_) | ((with_reducible refine gate_store (t := 3) (p := 52) rfl ?_); refine zStoreAt (t := 3) (k := .i64) (x := x) rfl rfl rfl (by kernel_rfl) rfl (by rw [HX1.out]; first | rfl | (rw [← i64_w]; rfl) | (go_simp; done)) BN.out (show 2 < 4 by decide) ?_; intro w9 hs hg; have BN9 := Aside0.mk (show w9.heap[gn]? = some (.cells #[.int .i64 a, .int .i64 b, .int .i64 x, .int .i64 d] 39 (0, 0)) from hs); have HG9 := Aside0.mk hg; clear hs hg))
                    go_roundg k2
                    case measure => have := HK2.out; omega
                    case rel => exact ⟨a, b, x, d, rk, wrap64 (i + 1), m2, rfl, rfl, HH, ⟨by have h1 := HK.out; have h2 := HK2.out; omega⟩, ⟨HE.out.grown HG9.out HNO.out⟩, ⟨impl_RankOrdered.bm HM.out (Nat.le_succ _)⟩, ⟨blk_grown BG.out HG9.out (fun e => HNG.out (Option.some.inj e).symm)⟩, BN9, ⟨WF.out.1, WF.out.2.1, wx, WF.out.2.2.2⟩, ⟨HB.out.grown HG9.out HB.out.size (fun j e => by injection e with e; subst e; exact HWN.out)⟩⟩
            · have hyb := hyy.symm
              clear hyy
              rw [hyb] at hx11
              go_wp2
              go_loopg [6, 30] k1 (fun kq v6 v30 w' => ∃ (rk j : Int) (m : Nat), v6 = .int .i64 rk ∧ v30 = .int .i64 j ∧ Aside0 (impl_RankOrdered.l1 kq a0 t0 t1 t2 t3 a b c d rk i 100 j = some (r1, r2)) ∧ Aside0 (kq ≤ k1) ∧ Aside0 (impl_votesOn_2.Env w' bg bk bf B t0 t1 t2 t3 m) ∧ Aside0 (m ≤ (201 - kq) * 8 ^ 18) ∧ Aside0 (w'.heap[gg]? = some (.cells #[.int .i64 t0, .int .i64 t1, .int .i64 t2, .int .i64 t3] 39 (0, 0))) ∧ Aside0 (w'.heap[gn]? = some (.cells #[.int .i64 a, .int .i64 b, .int .i64 c, .int .i64 d] 39 (0, 0))) ∧ Aside0 (Below w.heap.size w w'))
              case atStart => exact ⟨rank, 0, m, rfl, rfl, HH, ⟨Nat.le_refl _⟩, HE, ⟨impl_RankOrdered.bm HM.out (Nat.le_succ _)⟩, BG, BN, HB⟩
              case round =>
                clear HH HE HM BG BN HB
                obtain ⟨rk, j, m2, rfl, rfl, HA, HK2, HE, HM, BG, BN, HB⟩ := hrel
                cases gk with
                | zero => exact absurd HA.out (by simp [impl_RankOrdered.l1])
                | succ k2 =>
                  have H : (if j < (100 : Int) - 97 then ((impl_step.f 18 t0 t1 t2 t3 a b c d j).bind fun s => impl_RankOrdered.l1 k2 a0 t0 t1 t2 t3 a b c d (wrap64 (rk + s.2.2.2.2)) i 100 (wrap64 (j + 1))) else (if (100 : Int) = 97 then impl_RankOrdered.l0 k2 a0 t0 t1 t2 t3 (wrap64 (a + 1)) b c d rk (wrap64 (i + 1)) else if (100 : Int) = 98 then impl_RankOrdered.l0 k2 a0 t0 t1 t2 t3 a (wrap64 (b + 1)) c d rk (wrap64 (i + 1)) else if (100 : Int) = 99 then impl_RankOrdered.l0 k2 a0 t0 t1 t2 t3 a b (wrap64 (c + 1)) d rk (wrap64 (i + 1)) else if (100 : Int) = 100 then impl_RankOrdered.l0 k2 a0 t0 t1 t2 t3 a b c (wrap64 (d + 1)) rk (wrap64 (i + 1)) else none)) = some (r1, r2) := HA.out
                  clear HA
                  rw [show (100 : Int) - 97 = 3 from rfl] at H
                  by_cases c8 : j < 3
                  · rw [if_pos c8] at H
                    obtain ⟨s, A7, H⟩ := Option.bind_eq_some_iff.mp H
                    obtain ⟨b0, b1, b2, b3, qq, rfl, A8⟩ := impl_RankOrdered.wfs A7
                    have HA8 := Aside0.mk A8
                    have HH := Aside0.mk H
                    clear A7 A8 H
                    have c8b0 : decide (j < 3) = true := decide_eq_true c8
                    clear c8
                    go_wp2_with (first | ((with_reducible refine gate_dst (N := 35) rfl ?_); refine zLoadBox4 (t := 39) (e := 3) rfl rfl Tryd.underlying39 (by kernel_rfl) rfl BG.out ?_) | ((with_reducible refine gate_dst (N := 36) rfl ?_); refine zLoadBox4 (t := 39) (e := 3) rfl rfl Tryd.underlying39 (by kernel_rfl) rfl BN.out ?_) | (go_at_call 21; refine (impl_step.calls (bg := bg) (bk := bk) (bf := bf) (B := B) (n := m2) t0 t1 t2 t3 a b c d j b0 b1 b2 b3 qq 18 _ HE.out (impl_RankOrdered.bn HM.out) WF.out.1 WF.out.2.1 WF.out.2.2.1 WF.out.2.2.2 HA8.out).mono ?_; rintro e w9 ⟨rfl, hg, m9, hm9, hE9⟩; have HG9 := Aside0.mk hg; have HM9 := Aside0.mk hm9; have HE9 := Aside0.mk hE9; clear hg hm9 hE9) | ((with_reducible refine gate_dst (N := 10) rfl ?_); refine box_event ?hg (N := 10) ?hd (cs := #[.int .i64 0, .int .i64 0, .int .i64 0, .int .i64 0]) (t := 39) ?hr ?_; (case hd => rfl); (case hg => rfl); (case hr => first | (go_simp; done) | (go_simp; rfl)); intro gx hgx w10 hbox hb; have HBX := Aside0.mk hbox; have HGX := Aside0.mk (Nat.le_of_eq hgx.symm : w9.heap.size ≤ gx); have HB10 := Aside0.mk hb; clear hgx hb hbox) | ((with_reducible refine gate_store (t := 39) (p := 10) rfl ?_); refine zStoreBox4 (t := 39) (y0 := b0) (y1 := b1) (y2 := b2) (y3 := b3) rfl rfl rfl (by kernel_rfl) rfl rfl HBX.out ?_; intro w11 hs hg; have HBX11 := Aside0.mk hs; have HG11 := Aside0.mk hg; clear hs hg))
                    have HB11 := Aside0.mk (HB10.out.grown HG11.out HB10.out.size (fun j e => by injection e with e; subst e; exact HGX.out))
                    go_roundg k2
                    case measure => omega
                    case rel => exact ⟨wrap64 (rk + qq), wrap64 (j + 1), m9, rfl, rfl, HH, ⟨by have := HK2.out; omega⟩, ⟨HE9.out.below HB11.out⟩, ⟨impl_RankOrdered.bs (by have h1 := HK.out; have h2 := HK2.out; omega) HM.out HM9.out⟩, ⟨blk_below (blk_grown BG.out HG9.out (fun e => HGO.out.2.2.2 (Option.some.inj e))) HB11.out⟩, ⟨blk_below (blk_grown BN.out HG9.out (fun e => HNO.out.2.2.2 (Option.some.inj e))) HB11.out⟩, ⟨below_step (HB.out.grown HG9.out HB.out.size (fun j e => by injection e with e; subst e; exact HWB.out)) HB11.out⟩⟩
                  · rw [if_neg c8] at H
                    have c8b0 : decide (j < 3) = false := decide_eq_false c8
                    clear c8
                    obtain ⟨x, hx⟩ : ∃ x, x = wrap64 (d + 1) := ⟨_, rfl⟩
                    have H3 : impl_RankOrdered.l0 k2 a0 t0 t1 t2 t3 a b c x rk (wrap64 (i + 1)) = some (r1, r2) := by rw [hx]; rw [if_neg (by decide)] at H; rw [if_neg (by decide)] at H; rw [if_neg (by decide)] at H; rw [if_pos rfl] at H; exact H
                    have HH := Aside0.mk H3
                    have HX1 := Aside0.mk hx
                    have wx : (Lit.int .i64 x).wf = true := by rw [hx]; exact wrap64_wf _
                    clear H H3 hx
                    go_wp2_with (first | ((with_reducible refine gate_dst (N := 49) rfl ?_); refine zIndexAt (i := 3) (n := 4) (t := 39) (e := 3) rfl rfl Tryd.underlying39 (by kernel_rfl) rfl rfl rfl (by decide) ?_) | ((with_reducible refine gate_dst (N := 50) rfl ?_); refine zLoadAt (t := 3) (k := .i64) (x := d) rfl rfl Tryd.underlying3 rfl BN.out rfl ?_) | ((with_reducible refine gate_dst (N := 52) rfl ?_); refine zIndexAt (i := 3) (n := 4) (t := 39) (e := 3) rfl rfl Tryd.underlying39 (by kernel_rfl) rfl rfl rfl (by decide) ?_) | ((with_reducible refine gate_store (t := 3) (p := 52) rfl ?_); refine zStoreAt (t := 3) (k := .i64) (x := x) rfl rfl rfl (by kernel_rfl) rfl (by rw [HX1.out]; first | rfl | (rw [← i64_w]; rfl) | (go_simp; done)) BN.out (show 3 < 4 by decide) ?_; intro w9 hs hg; have BN9 := Aside0.mk (show w9.heap[gn]? = some (.cells #[.int .i64 a, .int .i64 b, .int .i64 c, .int .i64 x] 39 (0, 0)) from hs); have HG9 := Aside0.mk hg; clear hs hg))
                    go_roundg k2
                    case measure => have := HK2.out; omega
                    case rel => exact ⟨a, b, c, x, rk, wrap64 (i + 1), m2, rfl, rfl, HH, ⟨by have h1 := HK.out; have h2 := HK2.out; omega⟩, ⟨HE.out.grown HG9.out HNO.out⟩, ⟨impl_RankOrdered.bm HM.out (Nat.le_succ _)⟩, ⟨blk_grown BG.out HG9.out (fun e => HNG.out (Option.some.inj e).symm)⟩, BN9, ⟨WF.out.1, WF.out.2.1, WF.out.2.2.1, wx⟩, ⟨HB.out.grown HG9.out HB.out.size (fun j e => by injection e with e; subst e; exact HWN.out)⟩⟩
          · rw [if_neg c7] at H
            cases H
        · rw [if_neg c6] at H
          have c6b0 : decide (i < (a0.size : Int)) = false := decide_eq_false c6
          simp only [Option.some.injEq, Prod.mk.injEq] at H
          obtain ⟨rfl, rfl⟩ := H
          clear c6
          go_wp2
          go_ret2
          exact ⟨by first | rfl | (simp; done), HB.out⟩
  · replace ct := Bool.eq_false_iff.mpr ct
    subst ct
    rw [if_neg (show ¬ (false = true) by decide)] at h2
    simp only [Option.some.injEq, Prod.mk.injEq] at h2
    obtain ⟨rfl, rfl⟩ := h2
    go_enter Tryd.func6, Tryd.ntmps6
    go_wp2_with (first | (go_at_call 18; refine (impl_areOrderedVotes.calls k a0 false _ HO.out).mono ?_; rintro e w1 ⟨rfl, hb⟩; have HB1 := Aside0.mk hb; clear hb))
    go_ret2
    exact ⟨by first | rfl | (simp; done), HB1.out⟩

/-! ### laws_FnExactRankOrdered: function 3 -/
def laws_FnExactRankOrdered.f (k : Nat) (a0 : ByteArray) : Option (Bool) := if (a0.size : Int) > 1048576 then (some true) else ((spec_RankOrdered.f k a0).bind fun bt186 => ((impl_RankOrdered.f k a0).bind fun bt188 => (if bt188.1 = bt186.1 then (if (bt188.2 != bt186.2) = true then (some false) else (some true)) else (some false))))
theorem laws_FnExactRankOrdered.mono : ∀ a0 k, LeO (laws_FnExactRankOrdered.f k a0) (laws_FnExactRankOrdered.f (k + 1) a0) := by
  intro a0 k
  unfold laws_FnExactRankOrdered.f
  repeat' first
      | (with_reducible exact impl_RankOrdered.mono _ _)
      | (with_reducible exact spec_RankOrdered.mono _ _)
      | (with_reducible exact LeO.refl _)
      | (with_reducible exact LeO.none _)
      | (with_reducible refine LeO.ite ?_ ?_)
      | (with_reducible refine LeO.bind ?_ (fun _ => ?_))
      | exact impl_RankOrdered.mono _ _
      | exact spec_RankOrdered.mono _ _
      | exact LeO.none _
      | refine LeO.ite ?_ ?_
      | refine LeO.bind ?_ (fun _ => ?_)
set_option maxHeartbeats 8000000 in
set_option maxRecDepth 100000 in
theorem laws_FnExactRankOrdered.calls (k : Nat) (a0 : ByteArray) (r : Bool) (w : World) (h : laws_FnExactRankOrdered.f k a0 = some r) :
    Calls Tryd.prog 3 #[.string a0] w fun e w' => e = .returned (.bool r) ∧ Below w.heap.size w w' := by
  have HB := Aside0.mk (Below.refl w.heap.size w)
  have H : (if (a0.size : Int) > 1048576 then (some true) else ((spec_RankOrdered.f k a0).bind fun bt186 => ((impl_RankOrdered.f k a0).bind fun bt188 => (if bt188.1 = bt186.1 then (if (bt188.2 != bt186.2) = true then (some false) else (some true)) else (some false))))) = some r := h
  clear h
  by_cases c2 : (a0.size : Int) > 1048576
  · rw [if_pos c2] at H
    have c2b0 : decide (1048576 < (a0.size : Int)) = true := decide_eq_true c2
    have c2b1 : decide (1048576 < a0.size) = true := decide_eq_true (by omega)
    clear c2
    obtain rfl := Option.some.inj H
    go_enter Tryd.func3, Tryd.ntmps3
    go_wp2
    go_ret
    exact ⟨by first | rfl | (simp [errW_none, errW_some] <;> rfl) | (simp [*, errW_none, errW_some] <;> rfl), by repeat (first | (with_reducible first | exact HB.out | apply below_alloc | apply pw_below_drewN | apply below_drew1) | exact HB.out)⟩
  · rw [if_neg c2] at H
    have c2b0 : decide (1048576 < (a0.size : Int)) = false := decide_eq_false c2
    have c2b1 : decide (1048576 < a0.size) = false := decide_eq_false (by omega)
    clear c2
    replace H := Option.bind_eq_some_iff.mp H
    obtain ⟨⟨t186, t187⟩, A30, H⟩ := H
    replace H : ((impl_RankOrdered.f k a0).bind fun bt188 => (if bt188.1 = t186 then (if (bt188.2 != t187) = true then (some false) else (some true)) else (some false))) = some r := H
    have A3 := Aside0.mk A30
    clear A30
    replace H := Option.bind_eq_some_iff.mp H
    obtain ⟨⟨t188, t189⟩, A40, H⟩ := H
    replace H : (if t188 = t186 then (if (t189 != t187) = true then (some false) else (some true)) else (some false)) = some r := H
    have A4 := Aside0.mk A40
    clear A40
    by_cases c5 : t188 = t186
    · rw [if_pos c5] at H
      have c5b0 : (t188 == t186) = true := beq_iff_eq.mpr c5
      have c5b1 : (t188 != t186) = false := bne_eq_false_iff_eq.mpr c5
      clear c5
      by_cases c6 : (t189 != t187) = true
      · rw [if_pos c6] at H
        have c6b0 : (t189 != t187) = true := c6
        (try (have c6b1 : decide (t189 = t187) = false := by simpa using c6))
        (try (have c6b2 : (t189 == t187) = false := by simpa using c6))
        (try (have c6b3 : ¬ (t189 = t187) := by simpa using c6))
        clear c6
        obtain rfl := Option.some.inj H
        go_enter Tryd.func3, Tryd.ntmps3
        go_wp2_with (first | ((with_reducible refine gate_callee (f := 5) rfl ?_); refine goesL_ (some 12) rfl rfl Tryd.func5 (by kernel_rfl) rfl #[.string a0] rfl (by (try simp only [List.map_toArray, List.map_cons, List.map_nil]); first | done | rfl | (simp only [List.length_drop, List.length_take]; rfl)) ?_; (with_reducible refine (spec_RankOrdered.calls k a0 t186 t187 _ A3.out).mono ?_); rintro e w7 ⟨rfl, hb⟩; refine ⟨_, rfl, ?_⟩; have n0_ := Aside0.mk (below_step (by repeat (first | (with_reducible first | exact HB.out | apply below_alloc | apply pw_below_drewN | apply below_drew1) | exact HB.out)) hb); clear HB; have HB := n0_; clear n0_; (try clear hb); (try clear hb2); (try clear hk); (try clear hi)) | ((with_reducible refine gate_callee (f := 6) rfl ?_); refine goesL_ (some 17) rfl rfl Tryd.func6 (by kernel_rfl) rfl #[.string a0] rfl (by (try simp only [List.map_toArray, List.map_cons, List.map_nil]); first | done | rfl | (simp only [List.length_drop, List.length_take]; rfl)) ?_; (with_reducible refine (impl_RankOrdered.calls k a0 t188 t189 _ A4.out).mono ?_); rintro e w8 ⟨rfl, hb⟩; refine ⟨_, rfl, ?_⟩; have n0_ := Aside0.mk (below_step (by repeat (first | (with_reducible first | exact HB.out | apply below_alloc | apply pw_below_drewN | apply below_drew1) | exact HB.out)) hb); clear HB; have HB := n0_; clear n0_; (try clear hb); (try clear hb2); (try clear hk); (try clear hi)))
        go_ret
        exact ⟨by first | rfl | (simp [errW_none, errW_some] <;> rfl) | (simp [*, errW_none, errW_some] <;> rfl), by repeat (first | (with_reducible first | exact HB.out | apply below_alloc | apply pw_below_drewN | apply below_drew1) | exact HB.out)⟩
      · rw [if_neg c6] at H
        have c6b0 : (t189 != t187) = false := by simpa using c6
        (try (have c6b1 : decide (t189 = t187) = true := by simpa using c6))
        (try (have c6b2 : (t189 == t187) = true := by simpa using c6))
        clear c6
        obtain rfl := Option.some.inj H
        go_enter Tryd.func3, Tryd.ntmps3
        go_wp2_with (first | ((with_reducible refine gate_callee (f := 5) rfl ?_); refine goesL_ (some 12) rfl rfl Tryd.func5 (by kernel_rfl) rfl #[.string a0] rfl (by (try simp only [List.map_toArray, List.map_cons, List.map_nil]); first | done | rfl | (simp only [List.length_drop, List.length_take]; rfl)) ?_; (with_reducible refine (spec_RankOrdered.calls k a0 t186 t187 _ A3.out).mono ?_); rintro e w9 ⟨rfl, hb⟩; refine ⟨_, rfl, ?_⟩; have n0_ := Aside0.mk (below_step (by repeat (first | (with_reducible first | exact HB.out | apply below_alloc | apply pw_below_drewN | apply below_drew1) | exact HB.out)) hb); clear HB; have HB := n0_; clear n0_; (try clear hb); (try clear hb2); (try clear hk); (try clear hi)) | ((with_reducible refine gate_callee (f := 6) rfl ?_); refine goesL_ (some 17) rfl rfl Tryd.func6 (by kernel_rfl) rfl #[.string a0] rfl (by (try simp only [List.map_toArray, List.map_cons, List.map_nil]); first | done | rfl | (simp only [List.length_drop, List.length_take]; rfl)) ?_; (with_reducible refine (impl_RankOrdered.calls k a0 t188 t189 _ A4.out).mono ?_); rintro e w10 ⟨rfl, hb⟩; refine ⟨_, rfl, ?_⟩; have n0_ := Aside0.mk (below_step (by repeat (first | (with_reducible first | exact HB.out | apply below_alloc | apply pw_below_drewN | apply below_drew1) | exact HB.out)) hb); clear HB; have HB := n0_; clear n0_; (try clear hb); (try clear hb2); (try clear hk); (try clear hi)))
        go_ret
        exact ⟨by first | rfl | (simp [errW_none, errW_some] <;> rfl) | (simp [*, errW_none, errW_some] <;> rfl), by repeat (first | (with_reducible first | exact HB.out | apply below_alloc | apply pw_below_drewN | apply below_drew1) | exact HB.out)⟩
    · rw [if_neg c5] at H
      have c5b0 : (t188 == t186) = false := beq_eq_false_iff_ne.mpr c5
      have c5b1 : (t188 != t186) = true := bne_iff_ne.mpr c5
      obtain rfl := Option.some.inj H
      go_enter Tryd.func3, Tryd.ntmps3
      go_wp2_with (first | ((with_reducible refine gate_callee (f := 5) rfl ?_); refine goesL_ (some 12) rfl rfl Tryd.func5 (by kernel_rfl) rfl #[.string a0] rfl (by (try simp only [List.map_toArray, List.map_cons, List.map_nil]); first | done | rfl | (simp only [List.length_drop, List.length_take]; rfl)) ?_; (with_reducible refine (spec_RankOrdered.calls k a0 t186 t187 _ A3.out).mono ?_); rintro e w11 ⟨rfl, hb⟩; refine ⟨_, rfl, ?_⟩; have n0_ := Aside0.mk (below_step (by repeat (first | (with_reducible first | exact HB.out | apply below_alloc | apply pw_below_drewN | apply below_drew1) | exact HB.out)) hb); clear HB; have HB := n0_; clear n0_; (try clear hb); (try clear hb2); (try clear hk); (try clear hi)) | ((with_reducible refine gate_callee (f := 6) rfl ?_); refine goesL_ (some 17) rfl rfl Tryd.func6 (by kernel_rfl) rfl #[.string a0] rfl (by (try simp only [List.map_toArray, List.map_cons, List.map_nil]); first | done | rfl | (simp only [List.length_drop, List.length_take]; rfl)) ?_; (with_reducible refine (impl_RankOrdered.calls k a0 t188 t189 _ A4.out).mono ?_); rintro e w12 ⟨rfl, hb⟩; refine ⟨_, rfl, ?_⟩; have n0_ := Aside0.mk (below_step (by repeat (first | (with_reducible first | exact HB.out | apply below_alloc | apply pw_below_drewN | apply below_drew1) | exact HB.out)) hb); clear HB; have HB := n0_; clear n0_; (try clear hb); (try clear hb2); (try clear hk); (try clear hi)))
      go_ret
      exact ⟨by first | rfl | (simp [errW_none, errW_some] <;> rfl) | (simp [*, errW_none, errW_some] <;> rfl), by repeat (first | (with_reducible first | exact HB.out | apply below_alloc | apply pw_below_drewN | apply below_drew1) | exact HB.out)⟩

/-- THE ONE PURE STATEMENT of laws_FnExactRankOrdered: yours. -/
def laws_FnExactRankOrdered.Pure : Prop := ∀ (a0 : ByteArray), a0.size ≤ 140737488351232 → ∃ k, laws_FnExactRankOrdered.f k a0 = some true
theorem laws_FnExactRankOrdered.walk (P : laws_FnExactRankOrdered.Pure) (a0 : ByteArray) (w : World) (w0 : a0.size ≤ 140737488351232) :
    Calls Tryd.prog 3 #[.string a0] w fun e w' => e = .returned (.bool true) ∧ Below w.heap.size w w' := by
  obtain ⟨k, h⟩ := P a0 w0
  refine (laws_FnExactRankOrdered.calls k a0 true w h).mono ?_
  rintro e w' ⟨rfl, hd⟩
  exact ⟨rfl, hd⟩

end Go.Proofs.YtgpebahbeccniaaDoor.QFnExactRankOrdered
