/- Written by a program of this repo (xprint: a turned copy of the kit's print, with our own templates in it); Lean checks all of it. -/
import Derived.Test.YtgpebahbeccniaaQFnExactOrderedOfRankx0
import Derived.Test.YtgpebahbeccniaaQFnExactOrderedOfRankx1
import Derived.Test.YtgpebahbeccniaaQFnExactOrderedOfRankx5
import Derived.Test.YtgpebahbeccniaaQFnExactOrderedOfRankx6
import Derived.Test.YtgpebahbeccniaaQFnExactOrderedOfRankx7
namespace Go.Proofs.Ytgpebahbeccniaa.QFnExactOrderedOfRank
open Go.RowKit Go.Proofs.YtgpebahbeccniaaZ Go.Proofs.YtgpebahbeccniaaZm Go.Maps Go.Proofs.YtgpebahbeccniaaZt Go.Proofs.YtgpebahbeccniaaW.PrintWords Go.Proofs.YtgpebahbeccniaaW.PrintLast Go.Proofs.YtgpebahbeccniaaW.PrintMore
attribute [local go_sem] max2_int min2_int max_two min_two max_three min_three max_four min_four   -- for this text's walks alone
set_option linter.unusedVariables false
set_option linter.unusedSimpArgs false

/-! ### impl_tally_ofRank: function 43 -/
mutual
def impl_tally_ofRank.l0 : Nat → Int → Int → Int → Int → List Int → Int → Int → Int → Int → Int → Option (ByteArray × Bool)
  | 0, _, _, _, _, _, _, _, _, _, _ => none
  | k + 1, t0, t1, t2, t3, out, a, b, c, d, rank => if a = t0 ∧ b = t1 ∧ c = t2 ∧ d = t3 then some (strOfNums out, true) else impl_tally_ofRank.l1 k t0 t1 t2 t3 out a b c d rank 0
def impl_tally_ofRank.l1 : Nat → Int → Int → Int → Int → List Int → Int → Int → Int → Int → Int → Int → Option (ByteArray × Bool)
  | 0, _, _, _, _, _, _, _, _, _, _, _ => none
  | k + 1, t0, t1, t2, t3, out, a, b, c, d, rank, i => if i < 4 then ((impl_step.f 18 t0 t1 t2 t3 a b c d i).bind fun s => (if rank < s.2.2.2.2 then (if out.length < 140737488355328 then impl_tally_ofRank.l0 k t0 t1 t2 t3 (out ++ [bt (⟨#[97, 98, 99, 100]⟩ : ByteArray) i]) s.1 s.2.1 s.2.2.1 s.2.2.2.1 rank else none) else impl_tally_ofRank.l1 k t0 t1 t2 t3 out a b c d (wrap64 (rank - s.2.2.2.2)) (wrap64 (i + 1)))) else impl_tally_ofRank.l0 k t0 t1 t2 t3 out a b c d rank
end
theorem impl_tally_ofRank.info8 : (Try.prog.info? 5).map (fun i => (i.zero, i.size, i.bytes)) = some (some (.int .u8 0), 1, 1) := by kernel_rfl
def impl_tally_ofRank.f (_k : Nat) (t0 t1 t2 t3 rank : Int) : Option (ByteArray × Bool) := (impl_votesOn_2.g t0 t1 t2 t3 18 0 0 0 0).bind fun s => (impl_in.f rank 0 (wrap64 (s - 1))).bind fun t => (if t = true then impl_tally_ofRank.l0 200 t0 t1 t2 t3 [] 0 0 0 0 rank else some ((⟨#[]⟩ : ByteArray), false))
theorem impl_tally_ofRank.mono : ∀ a0 a1 a2 a3 a4 k, LeO (impl_tally_ofRank.f k a0 a1 a2 a3 a4) (impl_tally_ofRank.f (k + 1) a0 a1 a2 a3 a4) := fun _ _ _ _ _ _ => LeO.refl _
theorem impl_tally_ofRank.bn {n m : Nat} (h : n ≤ (201 - m) * 8 ^ 18) : n + 8 ^ 18 ≤ maxLen := by
  have h1 : (201 - m) * 8 ^ 18 ≤ 201 * 8 ^ 18 := Nat.mul_le_mul_right _ (by omega)
  have h2 : 201 * 8 ^ 18 + 8 ^ 18 ≤ maxLen := by decide
  omega
theorem impl_tally_ofRank.bs {n n' m : Nat} (hm : m + 1 ≤ 200) (h : n ≤ (201 - (m + 1)) * 8 ^ 18) (h' : n' < n + 8 ^ 18) : n' ≤ (201 - m) * 8 ^ 18 := by
  have h1 : (201 - m) * 8 ^ 18 = (201 - (m + 1)) * 8 ^ 18 + 8 ^ 18 := by rw [show 201 - m = (201 - (m + 1)) + 1 by omega, Nat.add_mul, Nat.one_mul]
  omega
theorem impl_tally_ofRank.bm {n m m' : Nat} (h : n ≤ (201 - m) * 8 ^ 18) (hm : m' ≤ m) : n ≤ (201 - m') * 8 ^ 18 := Nat.le_trans h (Nat.mul_le_mul_right _ (by omega))
/-- The numbers behind a step are such as fit. -/
theorem impl_step.wf {k : Nat} {g0 g1 g2 g3 a b c d i r1 r2 r3 r4 r5 : Int} (wa : (Lit.int .i64 a).wf = true) (wb : (Lit.int .i64 b).wf = true) (wc : (Lit.int .i64 c).wf = true) (wd : (Lit.int .i64 d).wf = true) (h : impl_step.f k g0 g1 g2 g3 a b c d i = some (r1, r2, r3, r4, r5)) : ((Lit.int .i64 r1).wf = true ∧ (Lit.int .i64 r2).wf = true ∧ (Lit.int .i64 r3).wf = true ∧ (Lit.int .i64 r4).wf = true) ∧ 0 ≤ i ∧ i < 4 := by
  unfold impl_step.f at h
  have go : ∀ {x y b0 b1 b2 b3 : Int}, impl_step.one (impl_votesOn_2.g g0 g1 g2 g3 k) x y b0 b1 b2 b3 = some (r1, r2, r3, r4, r5) → r1 = b0 ∧ r2 = b1 ∧ r3 = b2 ∧ r4 = b3 := fun h => (impl_step.one_cases h).1
  by_cases e0 : i = 0
  · rw [if_pos e0] at h; obtain ⟨rfl, rfl, rfl, rfl⟩ := go h; exact ⟨⟨wrap64_wf _, by assumption, by assumption, by assumption⟩, by omega, by omega⟩
  rw [if_neg e0] at h
  by_cases e1 : i = 1
  · rw [if_pos e1] at h; obtain ⟨rfl, rfl, rfl, rfl⟩ := go h; exact ⟨⟨by assumption, wrap64_wf _, by assumption, by assumption⟩, by omega, by omega⟩
  rw [if_neg e1] at h
  by_cases e2 : i = 2
  · rw [if_pos e2] at h; obtain ⟨rfl, rfl, rfl, rfl⟩ := go h; exact ⟨⟨by assumption, by assumption, wrap64_wf _, by assumption⟩, by omega, by omega⟩
  rw [if_neg e2] at h
  by_cases e3 : i = 3
  · rw [if_pos e3] at h; obtain ⟨rfl, rfl, rfl, rfl⟩ := go h; exact ⟨⟨by assumption, by assumption, by assumption, wrap64_wf _⟩, by omega, by omega⟩
  rw [if_neg e3] at h
  cases h
set_option maxHeartbeats 4000000 in
set_option maxRecDepth 100000 in
theorem impl_tally_ofRank.calls (k : Nat) (t0 t1 t2 t3 a1 : Int) (r1 : ByteArray) (r2 : Bool) (w : World) (h : impl_tally_ofRank.f k t0 t1 t2 t3 a1 = some (r1, r2)) :
    Calls Try.prog 43 #[.agg #[.int .i64 t0, .int .i64 t1, .int .i64 t2, .int .i64 t3], .int .i64 a1] w fun e w' => e = .returned (.tuple #[.string r1, .bool r2]) ∧ Below w.heap.size w w' := by
  have heg : ∀ (args : Array Value) (w : World), (callFunc 83 args).run Try.prog w = .ok (.enter 83 args) w := impl_votesOn_2.enters
  obtain ⟨s0, A0, h1⟩ := Option.bind_eq_some_iff.mp h
  obtain ⟨tt, A1, h2⟩ := Option.bind_eq_some_iff.mp h1
  have HS := Aside0.mk A0
  have HI := Aside0.mk A1
  clear h h1 A0 A1
  by_cases ct : tt = true
  · subst ct
    rw [if_pos rfl] at h2
    have H2 := Aside0.mk h2
    clear h2
    go_enter Try.func43, Try.ntmps43
    go_upto_region 5 with (first | ((with_reducible refine gate_dst (N := 2) rfl ?_); refine box_event ?hg (N := 2) ?hd (cs := #[.int .i64 t0, .int .i64 t1, .int .i64 t2, .int .i64 t3]) (t := 60) ?hr ?_; (case hd => rfl); (case hg => rfl); (case hr => first | (go_simp; done) | (go_simp; rfl)); intro gg hgg w1 hbox hb; have HBG := Aside0.mk hbox; have HB1 := Aside0.mk hb; have HGG := Aside0.mk (Nat.le_of_eq hgg.symm : w.heap.size ≤ gg); clear hgg hb hbox) | ((with_reducible refine gate_dst (N := 12) rfl ?_); refine zLoadBox4 (t := 60) (e := 3) rfl rfl Try.underlying60 (by kernel_rfl) rfl HBG.out ?_) | (go_at_call 63; refine (impl_votesOn.calls t0 t1 t2 t3 _).mono ?_; rintro e w2 ⟨bg, bk, bf, B, rfl, hE, l1, l2, l3, l4, hb⟩; have HE := Aside0.mk hE; have HLs := Aside0.mk (And.intro l1 (And.intro l2 (And.intro l3 l4))); have HB2 := Aside0.mk (below_step HB1.out hb); have HBG2 := Aside0.mk (blk_below HBG.out hb); have HGL := Aside0.mk (blk_lt HBG.out); clear hE l1 l2 l3 l4 hb) | (go_at_fn 83; refine (impl_votesOn_2.Env.call HE.out 18 (by decide) 0 0 0 0 s0 (by decide) (by decide) (by decide) (by decide) HS.out).mono ?_; rintro e w3 ⟨rfl, hg, n3, hn3, hE3⟩; have HG3 := Aside0.mk hg; have HN3 := Aside0.mk hn3; have HE3 := Aside0.mk hE3; clear hg hn3 hE3) | (go_at_call 32; refine (impl_in.calls a1 0 (wrap64 (s0 - 1)) true _ HI.out).mono ?_; rintro e w4 ⟨rfl, ⟨nd, rfl⟩⟩) | ((with_reducible refine gate_dst (N := 21) rfl ?_); refine Kd.R_lit (Kd.int .u8) _ 5 ?hg (N := 21) ?hd (xs := ([] : List Int)) (inner := []) (ok := fun _ => True) (okp := fun _ => True) ?hr ?hp (fun _ hk => hk) trivial (Below.refl _ _) (Nat.le_refl _) (by simp) ?_; (case hd => rfl); (case hg => rfl); (case hr => first | (go_simp; done) | (go_simp; rfl)); (case hp => exact (Reps.none _ _)); intro v5 w5 ho5 hb hg_ hnew_; have HR5 := Aside0.mk ho5; have HB5 := Aside0.mk hb; clear hg_ hnew_ ho5 hb) | ((with_reducible refine gate_dst (N := 8) rfl ?_); refine box_event ?hg (N := 8) ?hd (cs := #[.int .i64 0, .int .i64 0, .int .i64 0, .int .i64 0]) (t := 60) ?hr ?_; (case hd => rfl); (case hg => rfl); (case hr => first | (go_simp; done) | (go_simp; rfl)); intro gn hgn w6 hbox hb; have HBN := Aside0.mk hbox; have HGN := Aside0.mk (Nat.le_of_eq hgn.symm : w5.heap.size ≤ gn); have HB6 := Aside0.mk hb; clear hgn hb hbox) | ((with_reducible refine gate_store (t := 60) (p := 8) rfl ?_); refine zStoreBox4 (t := 60) (y0 := 0) (y1 := 0) (y2 := 0) (y3 := 0) rfl rfl rfl (by kernel_rfl) rfl rfl HBN.out ?_; intro w7 hs hg; have HBN7 := Aside0.mk hs; have HG7 := Aside0.mk hg; clear hs hg))
    have HE4 := Aside0.mk ((HE3.out.drewN nd).below HB5.out)
    have HNO := Aside0.mk (HE4.out.off HGN.out)
    have HE7 := Aside0.mk ((HE4.out.below HB6.out).grown HG7.out HNO.out)
    have HEL := Aside0.mk HE.out.lt
    have HGO := Aside0.mk (show gg ≠ bg ∧ gg ≠ bk ∧ gg ≠ bf ∧ gg ≠ B by have h1 := HGL.out; have h2 := HLs.out; omega)
    have HS3 := Aside0.mk (show w2.heap.size ≤ w3.heap.size ∧ w3.heap.size ≤ w5.heap.size from ⟨HG3.out.size, HB5.out.size⟩)
    have HGL2 := Aside0.mk (blk_lt HBG2.out)
    have HNG := Aside0.mk (show gn ≠ gg by have h1 := HGL2.out; have h2 := HS3.out; have h3 := HGN.out; omega)
    have HW5 := Aside0.mk (show w.heap.size ≤ w2.heap.size from HB2.out.size)
    have HWB := Aside0.mk (show w.heap.size ≤ bg ∧ w.heap.size ≤ bk ∧ w.heap.size ≤ bf ∧ w.heap.size ≤ B by have h1 := HB1.out.size; have h2 := HLs.out; omega)
    have HWN := Aside0.mk (show w.heap.size ≤ gn by have h1 := HW5.out; have h2 := HS3.out; have h3 := HGN.out; omega)
    have HBA := Aside0.mk (show Below w.heap.size w w3 from HB2.out.grown HG3.out HW5.out (fun j e => by injection e with e; subst e; exact HWB.out.2.2.2))
    have HBB := Aside0.mk (show Below w.heap.size w w7 from (((below_step (pw_below_drewN HBA.out nd) HB5.out) |> fun h => below_step h HB6.out).grown HG7.out (below_step (below_step (pw_below_drewN HBA.out nd) HB5.out) HB6.out).size (fun j e => by injection e with e; subst e; exact HWN.out)))
    have HBG3 := Aside0.mk (blk_grown HBG2.out HG3.out (fun e => HGO.out.2.2.2 (Option.some.inj e)))
    have HBG7 := Aside0.mk (blk_grown (blk_below (blk_below (blk_drewN HBG3.out nd) HB5.out) HB6.out) HG7.out (fun e => HNG.out (Option.some.inj e).symm))
    have HR6 := Aside0.mk (Kd.R_mono (ok' := (fun j => j ≠ bg ∧ j ≠ bk ∧ j ≠ bf ∧ j ≠ B ∧ j ≠ gg ∧ j ≠ gn)) (Kd.R_bound HR5.out) (fun j hj => by have h1 := HEL.out; have h2 := HS3.out; have h3 := HGL2.out; have h4 := HGN.out; have h5 : w3.heap.size ≤ j := hj.2.1; have h6 : j < w5.heap.size := hj.2.2.1; refine ⟨?_, ?_, ?_, ?_, ?_, ?_⟩ <;> omega))
    have HR7 := Aside0.mk (Kd.R_grown (Kd.R_below (Kd.R_lower HR6.out (show w.heap.size ≤ (w3.drewN nd).heap.size from HBA.out.size)) HB6.out) HG7.out (fun j hj e => hj.2.2.2.2.2 (Option.some.inj e)))
    have HN7 := Aside0.mk (show n3 ≤ (201 - 200) * 8 ^ 18 by have := HN3.out; omega)
    clear HB1 HBG HE HB2 HBG2 HGL HG3 HN3 HE3 HR5 HB5 HBN HGN HB6 HG7 HE4 HEL HS3 HGL2 HBA HBG3 HR6 HS HI HW5 HGG
    go_wp2_with (first | (fail))
    go_loopg [1, 7] 200 (fun kq v1 v7 w' => ∃ (out : List Int) (a b c d rank : Int) (m : Nat), v1 = .int .i64 rank ∧ Aside0 (impl_tally_ofRank.l0 kq t0 t1 t2 t3 out a b c d rank = some (r1, r2)) ∧ Aside0 (kq ≤ 200) ∧ Aside0 (Kd.R (Kd.int .u8) 5 w' w.heap.size (fun j => j ≠ bg ∧ j ≠ bk ∧ j ≠ bf ∧ j ≠ B ∧ j ≠ gg ∧ j ≠ gn) v7 out) ∧ Aside0 (impl_votesOn_2.Env w' bg bk bf B t0 t1 t2 t3 m) ∧ Aside0 (m ≤ (201 - kq) * 8 ^ 18) ∧ Aside0 (w'.heap[gg]? = some (.cells #[.int .i64 t0, .int .i64 t1, .int .i64 t2, .int .i64 t3] 60 (0, 0))) ∧ Aside0 (w'.heap[gn]? = some (.cells #[.int .i64 a, .int .i64 b, .int .i64 c, .int .i64 d] 60 (0, 0))) ∧ Aside0 ((Lit.int .i64 a).wf = true ∧ (Lit.int .i64 b).wf = true ∧ (Lit.int .i64 c).wf = true ∧ (Lit.int .i64 d).wf = true) ∧ Aside0 (Below w.heap.size w w'))
    case atStart => exact ⟨[], 0, 0, 0, 0, a1, n3, rfl, H2, ⟨Nat.le_refl _⟩, HR7, HE7, HN7, HBG7, HBN7, ⟨by decide, by decide, by decide, by decide⟩, HBB⟩
    case round =>
      clear H2 HR7 HE7 HN7 HBG7 HBN7 HBB
      obtain ⟨out, a, b, c, d, rank, m, rfl, HA, HK, HO, HE, HM, BG, BN, WF, HB⟩ := hrel
      cases gk with
      | zero => exact absurd HA.out (by simp [impl_tally_ofRank.l0])
      | succ k1 =>
        have H : (if a = t0 ∧ b = t1 ∧ c = t2 ∧ d = t3 then some (strOfNums out, true) else impl_tally_ofRank.l1 k1 t0 t1 t2 t3 out a b c d rank 0) = some (r1, r2) := HA.out
        clear HA
        by_cases qe : a = t0 ∧ b = t1 ∧ c = t2 ∧ d = t3
        · rw [if_pos qe] at H
          simp only [Option.some.injEq, Prod.mk.injEq] at H
          obtain ⟨rfl, rfl⟩ := H
          have qb := Aside0.mk (show (a == t0 && (b == t1 && (c == t2 && d == t3))) = true by simp [qe])
          clear qe
          have hcv := own_string (P := Try.prog) Try.underlying91 Try.underlying5 Try.underlying9 (Kd.own_of_R HO.out)
          go_wp2_with (first | ((with_reducible refine gate_dst (N := 23) rfl ?_); refine zLoadBox4 (t := 60) (e := 3) rfl rfl Try.underlying60 (by kernel_rfl) rfl BN.out ?_) | ((with_reducible refine gate_dst (N := 24) rfl ?_); refine zLoadBox4 (t := 60) (e := 3) rfl rfl Try.underlying60 (by kernel_rfl) rfl BG.out ?_) | ((with_reducible refine gate_dst (N := 25) rfl ?_); refine zNeqArr4 (t := 60) (e := 3) rfl rfl Try.underlying60 Try.underlying3 (by kernel_rfl) (by kernel_rfl) rfl rfl qb.out (r' := false) rfl ?_))
          go_ret2
          exact ⟨by first | rfl | (simp; done), HB.out⟩
        · rw [if_neg qe] at H
          have qb := Aside0.mk (show (a == t0 && (b == t1 && (c == t2 && d == t3))) = false by simpa using qe)
          clear qe
          have H' := Aside0.mk H
          clear H
          go_wp2_with (first | ((with_reducible refine gate_dst (N := 23) rfl ?_); refine zLoadBox4 (t := 60) (e := 3) rfl rfl Try.underlying60 (by kernel_rfl) rfl BN.out ?_) | ((with_reducible refine gate_dst (N := 24) rfl ?_); refine zLoadBox4 (t := 60) (e := 3) rfl rfl Try.underlying60 (by kernel_rfl) rfl BG.out ?_) | ((with_reducible refine gate_dst (N := 25) rfl ?_); refine zNeqArr4 (t := 60) (e := 3) rfl rfl Try.underlying60 Try.underlying3 (by kernel_rfl) (by kernel_rfl) rfl rfl qb.out (r' := true) rfl ?_))
          obtain ⟨vo, hvo⟩ : ∃ v, v = u7 := ⟨_, rfl⟩
          subst hvo
          go_loopg [1, 7, 26] k1 (fun kq v1 v7 v26 w' => ∃ (rk i : Int) (m : Nat), v1 = .int .i64 rk ∧ v7 = vo ∧ v26 = .int .i64 i ∧ Aside0 (impl_tally_ofRank.l1 kq t0 t1 t2 t3 out a b c d rk i = some (r1, r2)) ∧ Aside0 (kq ≤ k1) ∧ Aside0 (Kd.R (Kd.int .u8) 5 w' w.heap.size (fun j => j ≠ bg ∧ j ≠ bk ∧ j ≠ bf ∧ j ≠ B ∧ j ≠ gg ∧ j ≠ gn) vo out) ∧ Aside0 (impl_votesOn_2.Env w' bg bk bf B t0 t1 t2 t3 m) ∧ Aside0 (m ≤ (201 - kq) * 8 ^ 18) ∧ Aside0 (w'.heap[gg]? = some (.cells #[.int .i64 t0, .int .i64 t1, .int .i64 t2, .int .i64 t3] 60 (0, 0))) ∧ Aside0 (w'.heap[gn]? = some (.cells #[.int .i64 a, .int .i64 b, .int .i64 c, .int .i64 d] 60 (0, 0))) ∧ Aside0 (Below w.heap.size w w'))
          case atStart => exact ⟨rank, 0, m, rfl, rfl, rfl, H', ⟨Nat.le_refl _⟩, HO, HE, ⟨impl_tally_ofRank.bm HM.out (Nat.le_succ _)⟩, BG, BN, HB⟩
          case round =>
            clear H' HO HE HM BG BN HB qb
            obtain ⟨rk, i, m2, rfl, rfl, rfl, HA, HK2, HO, HE, HM, BG, BN, HB⟩ := hrel
            cases gk with
            | zero => exact absurd HA.out (by simp [impl_tally_ofRank.l1])
            | succ k2 =>
              have H : (if i < 4 then ((impl_step.f 18 t0 t1 t2 t3 a b c d i).bind fun s => (if rk < s.2.2.2.2 then (if out.length < 140737488355328 then impl_tally_ofRank.l0 k2 t0 t1 t2 t3 (out ++ [(bt (⟨#[97, 98, 99, 100]⟩ : ByteArray) i)]) s.1 s.2.1 s.2.2.1 s.2.2.2.1 rk else none) else impl_tally_ofRank.l1 k2 t0 t1 t2 t3 out a b c d (wrap64 (rk - s.2.2.2.2)) (wrap64 (i + 1)))) else impl_tally_ofRank.l0 k2 t0 t1 t2 t3 out a b c d rk) = some (r1, r2) := HA.out
              clear HA
              by_cases c6 : i < 4
              · rw [if_pos c6] at H
                obtain ⟨⟨b0, b1, b2, b3, qq⟩, A7, H⟩ := Option.bind_eq_some_iff.mp H
                have WS := Aside0.mk (impl_step.wf WF.out.1 WF.out.2.1 WF.out.2.2.1 WF.out.2.2.2 A7)
                have HA7 := Aside0.mk A7
                clear A7
                dsimp only at H
                have c6b0 : decide (i < 4) = true := decide_eq_true c6
                clear c6
                have HH := Aside0.mk H
                clear H
                go_upto_region 10 with (first | ((with_reducible refine gate_dst (N := 31) rfl ?_); refine zLoadBox4 (t := 60) (e := 3) rfl rfl Try.underlying60 (by kernel_rfl) rfl BG.out ?_) | ((with_reducible refine gate_dst (N := 32) rfl ?_); refine zLoadBox4 (t := 60) (e := 3) rfl rfl Try.underlying60 (by kernel_rfl) rfl BN.out ?_) | (go_at_call 64; refine (impl_step.calls (bg := bg) (bk := bk) (bf := bf) (B := B) (n := m2) t0 t1 t2 t3 a b c d i b0 b1 b2 b3 qq 18 _ HE.out (impl_tally_ofRank.bn HM.out) WF.out.1 WF.out.2.1 WF.out.2.2.1 WF.out.2.2.2 HA7.out).mono ?_; rintro e w9 ⟨rfl, hg, m9, hm9, hE9⟩; have HG9 := Aside0.mk hg; have HM9 := Aside0.mk hm9; have HE9 := Aside0.mk hE9; clear hg hm9 hE9) | ((with_reducible refine gate_dst (N := 10) rfl ?_); refine box_event ?hg (N := 10) ?hd (cs := #[.int .i64 0, .int .i64 0, .int .i64 0, .int .i64 0]) (t := 60) ?hr ?_; (case hd => rfl); (case hg => rfl); (case hr => first | (go_simp; done) | (go_simp; rfl)); intro gx hgx w10 hbox hb; have HBX := Aside0.mk hbox; have HGX := Aside0.mk (Nat.le_of_eq hgx.symm : w9.heap.size ≤ gx); have HB10 := Aside0.mk hb; clear hgx hb hbox) | ((with_reducible refine gate_store (t := 60) (p := 10) rfl ?_); refine zStoreBox4 (t := 60) (y0 := b0) (y1 := b1) (y2 := b2) (y3 := b3) rfl rfl rfl (by kernel_rfl) rfl rfl HBX.out ?_; intro w11 hs hg; have HBX11 := Aside0.mk hs; have HG11 := Aside0.mk hg; clear hs hg))
                have HB11 := Aside0.mk (HB10.out.grown HG11.out HB10.out.size (fun j e => by injection e with e; subst e; exact HGX.out))
                have HOX := Aside0.mk (Kd.R_bound (Kd.R_grown HO.out HG9.out (fun j hj e => hj.2.2.2.1 (Option.some.inj e))))
                have HNX := Aside0.mk (show ∀ j, some j = (u7 : Value).ownBlock → j < w9.heap.size from fun j hj => (HOX.out.1 j hj.symm).2.2.1)
                have HO11 := Aside0.mk (Kd.R_below (Kd.R_grown HO.out HG9.out (fun j hj e => hj.2.2.2.1 (Option.some.inj e))) HB11.out)
                have HE11 := Aside0.mk (HE9.out.below HB11.out)
                have BG11 := Aside0.mk (blk_below (blk_grown BG.out HG9.out (fun e => HGO.out.2.2.2 (Option.some.inj e))) HB11.out)
                have BN11 := Aside0.mk (blk_below (blk_grown BN.out HG9.out (fun e => HNO.out.2.2.2 (Option.some.inj e))) HB11.out)
                have HBW := Aside0.mk (show Below w.heap.size w w11 from below_step (HB.out.grown HG9.out HB.out.size (fun j e => by injection e with e; subst e; exact HWB.out.2.2.2)) HB11.out)
                have HM11 := Aside0.mk (impl_tally_ofRank.bs (by have h1 := HK.out; have h2 := HK2.out; omega) HM.out HM9.out)
                have HGNL := Aside0.mk (show gn < w9.heap.size from Nat.lt_of_lt_of_le (blk_lt BN.out) HG9.out.size)
                clear HO HE BG BN HB HM HG9 HM9 HE9 HBX HB10 HG11 HB11 HOX
                have HH2 := HH.out
                clear HH
                by_cases c7 : rk < qq
                · rw [if_pos c7] at HH2
                  have c7b0 : decide (rk < qq) = true := decide_eq_true c7
                  clear c7
                  by_cases c8 : out.length < 140737488355328
                  · rw [if_pos c8] at HH2
                    have LM := Aside0.mk c8
                    have HH3 := Aside0.mk HH2
                    clear c8 HH2
                    go_upto_region 11 with (first | (fail))
                    have x0 : w11.cell? ⟨gx, 0, none⟩ = some (.int .i64 b0) := (blk_cell HBX11.out 0).trans rfl
                    have x1 : w11.cell? ⟨gx, 1, none⟩ = some (.int .i64 b1) := (blk_cell HBX11.out 1).trans rfl
                    have x2 : w11.cell? ⟨gx, 2, none⟩ = some (.int .i64 b2) := (blk_cell HBX11.out 2).trans rfl
                    have x3 : w11.cell? ⟨gx, 3, none⟩ = some (.int .i64 b3) := (blk_cell HBX11.out 3).trans rfl
                    have p11 : (0 ≤ i) = True := eq_true WS.out.2.1
                    have q11 : (i < 4) = True := eq_true WS.out.2.2
                    have hx11 := bt_at (⟨#[97, 98, 99, 100]⟩ : ByteArray) i
                    have HNN := Aside0.mk (show gx ≠ gn from fun e => by have h1 := HGX.out; have h2 := HGNL.out; omega)
                    have HFR := Aside0.mk (show ∀ j, w11.heap.size ≤ j → j ≠ bg ∧ j ≠ bk ∧ j ≠ bf ∧ j ≠ B ∧ j ≠ gg ∧ j ≠ gn from fun j hj => by have h1 := HE11.out.lt; have h2 := blk_lt BG11.out; have h3 := blk_lt BN11.out; omega)
                    go_region_held3 (fun w' => w'.cell? ⟨gx, 0, none⟩ = some (.int .i64 b0) ∧ w'.cell? ⟨gx, 1, none⟩ = some (.int .i64 b1) ∧ w'.cell? ⟨gx, 2, none⟩ = some (.int .i64 b2) ∧ w'.cell? ⟨gx, 3, none⟩ = some (.int .i64 b3)) (first | (with_reducible exact ⟨x0, x1, x2, x3⟩) | (with_reducible exact ⟨cell_alloc_old x0 _, cell_alloc_old x1 _, cell_alloc_old x2 _, cell_alloc_old x3 _⟩) | (with_reducible exact ⟨x0c, x1c, x2c, x3c⟩) | (with_reducible exact ⟨cell_set4 HNN.out x0c, cell_set4 HNN.out x1c, cell_set4 HNN.out x2c, cell_set4 HNN.out x3c⟩) | exact ⟨x0, x1, x2, x3⟩ | exact ⟨cell_alloc_old x0 _, cell_alloc_old x1 _, cell_alloc_old x2 _, cell_alloc_old x3 _⟩ | fail) (first | (refine Kd.R_append_step (Kd.int .u8) (w0 := w) (W := w11.drew) w.heap.size (by rfl) (.tmp 40) (.tmp 43) 91 5 (.int .u8 0) 1 rfl Try.underlying91 impl_tally_ofRank.info8 rfl (by decide) (by omega) u7 out (bt (⟨#[97, 98, 99, 100]⟩ : ByteArray) i) [.int .u8 (bt (⟨#[97, 98, 99, 100]⟩ : ByteArray) i)] (fun j => j ≠ bg ∧ j ≠ bk ∧ j ≠ bf ∧ j ≠ B ∧ j ≠ gg ∧ j ≠ gn) (fun _ => False) rfl rfl ?aP (fun _ hk => hk.elim) ?aF ?aO ?aB ?aS ?aL ?_; (case aP => exact rfl); (case aB => exact below_drew1 HBW.out); (case aF => exact (fun j hj => HFR.out j hj)); (case aO => exact Kd.R_drew HO11.out); (case aS => exact HBW.out.size); (case aL => have := LM.out; omega); intro v12 w12 ho hb hg hat; have HO12 := Aside0.mk ho; have HB12 := Aside0.mk hb; have HG12 := Aside0.mk hg; have x0c : w12.cell? ⟨gx, 0, none⟩ = some (.int .i64 b0) := hg.cell (by exact x0) (fun e => by have h1 := HNX.out _ e; have h2 := HGX.out; exact absurd h2 (by dsimp only at h1 ⊢; omega)); have x1c : w12.cell? ⟨gx, 1, none⟩ = some (.int .i64 b1) := hg.cell (by exact x1) (fun e => by have h1 := HNX.out _ e; have h2 := HGX.out; exact absurd h2 (by dsimp only at h1 ⊢; omega)); have x2c : w12.cell? ⟨gx, 2, none⟩ = some (.int .i64 b2) := hg.cell (by exact x2) (fun e => by have h1 := HNX.out _ e; have h2 := HGX.out; exact absurd h2 (by dsimp only at h1 ⊢; omega)); have x3c : w12.cell? ⟨gx, 3, none⟩ = some (.int .i64 b3) := hg.cell (by exact x3) (fun e => by have h1 := HNX.out _ e; have h2 := HGX.out; exact absurd h2 (by dsimp only at h1 ⊢; omega)); have BNc := Aside0.mk (blk_grown (blk_drew BN11.out) hg (fun e => (HO11.out.1 _ e.symm).2.2.2.2.2 rfl)); have y0c : w12.cell? ⟨gn, 0, none⟩ = some (.int .i64 a) := (blk_cell BNc.out 0).trans rfl; have f0c := blk_frozen BNc.out 0; have y1c : w12.cell? ⟨gn, 1, none⟩ = some (.int .i64 b) := (blk_cell BNc.out 1).trans rfl; have f1c := blk_frozen BNc.out 1; have y2c : w12.cell? ⟨gn, 2, none⟩ = some (.int .i64 c) := (blk_cell BNc.out 2).trans rfl; have f2c := blk_frozen BNc.out 2; have y3c : w12.cell? ⟨gn, 3, none⟩ = some (.int .i64 d) := (blk_cell BNc.out 3).trans rfl; have f3c := blk_frozen BNc.out 3; clear ho hb hg hat))
                    have HE12 := HE11.out.drew.grownO HG12.out (fun j hj => by have h1 := HO11.out.1 j hj; exact ⟨h1.1, h1.2.1, h1.2.2.1, h1.2.2.2.1⟩)
                    have BG12 := blk_grown (blk_drew BG11.out) HG12.out (fun e => (HO11.out.1 _ e.symm).2.2.2.2.1 rfl)
                    have hgg := HNG.out.symm
                    have hno := HNO.out
                    obtain ⟨wz, hwz⟩ : ∃ wz : World, wz = ((((w12.setCell ⟨gn, 0, none⟩ (.int .i64 b0)).setCell ⟨gn, 1, none⟩ (.int .i64 b1)).setCell ⟨gn, 2, none⟩ (.int .i64 b2)).setCell ⟨gn, 3, none⟩ (.int .i64 b3)) := ⟨_, rfl⟩
                    have FE := Aside0.mk (show impl_votesOn_2.Env wz bg bk bf B t0 t1 t2 t3 m9 from hwz ▸ (((HE12.set hno _).set hno _).set hno _).set hno _)
                    have FG := Aside0.mk (show wz.heap[gg]? = some (.cells #[.int .i64 t0, .int .i64 t1, .int .i64 t2, .int .i64 t3] 60 (0, 0)) from hwz ▸ blk_far (blk_far (blk_far (blk_far BG12 hgg _) hgg _) hgg _) hgg _)
                    have FN := Aside0.mk (show wz.heap[gn]? = some (.cells #[.int .i64 b0, .int .i64 b1, .int .i64 b2, .int .i64 b3] 60 (0, 0)) from hwz ▸ blk_set (blk_set (blk_set (blk_set BNc.out 0 _) 1 _) 2 _) 3 _)
                    have FO := Aside0.mk (show Kd.R (Kd.int .u8) 5 wz w.heap.size (fun j => j ≠ bg ∧ j ≠ bk ∧ j ≠ bf ∧ j ≠ B ∧ j ≠ gg ∧ j ≠ gn) v12 (out ++ [(bt (⟨#[97, 98, 99, 100]⟩ : ByteArray) i)]) from hwz ▸ Kd.R_far (Kd.R_far (Kd.R_far (Kd.R_far HO12.out (fun j hj => hj.2.2.2.2.2) _) (fun j hj => hj.2.2.2.2.2) _) (fun j hj => hj.2.2.2.2.2) _) (fun j hj => hj.2.2.2.2.2) _)
                    have FB := Aside0.mk (show Below w.heap.size w wz from hwz ▸ below_set (below_set (below_set (below_set HB12.out HWN.out) HWN.out) HWN.out) HWN.out)
                    rw [← hwz]
                    clear HE12 BG12 hgg hno hwz HE11 BG11 BN11 HO11 HO12 HB12 HG12 BNc HBW HBX11 HNX HGX HNN HFR
                    clear x0 x0c y0c f0c x1 x1c y1c f1c x2 x2c y2c f2c x3 x3c y3c f3c
                    go_wp2
                    go_roundg k2
                    case measure => have := HK2.out; omega
                    case rel => exact ⟨out ++ [(bt (⟨#[97, 98, 99, 100]⟩ : ByteArray) i)], b0, b1, b2, b3, rk, m9, rfl, HH3, ⟨by have h1 := HK.out; have h2 := HK2.out; omega⟩, FO, FE, HM11, FG, FN, ⟨WS.out.1⟩, FB⟩
                  · rw [if_neg c8] at HH2
                    cases HH2
                · rw [if_neg c7] at HH2
                  have c7b0 : decide (rk < qq) = false := decide_eq_false c7
                  have HH3 := Aside0.mk HH2
                  clear c7 HH2
                  go_wp2
                  go_roundg k2
                  case measure => omega
                  case rel => exact ⟨wrap64 (rk - qq), wrap64 (i + 1), m9, rfl, rfl, rfl, HH3, ⟨by have := HK2.out; omega⟩, HO11, HE11, HM11, BG11, BN11, HBW⟩
              · rw [if_neg c6] at H
                have c6b0 : decide (i < 4) = false := decide_eq_false c6
                have HH3 := Aside0.mk H
                clear c6 H
                go_wp2
                go_roundg k2
                case measure => have := HK2.out; omega
                case rel => exact ⟨out, a, b, c, d, rk, m2, rfl, HH3, ⟨by have h1 := HK.out; have h2 := HK2.out; omega⟩, HO, HE, ⟨impl_tally_ofRank.bm HM.out (Nat.le_succ _)⟩, BG, BN, WF, HB⟩
  · replace ct := Bool.eq_false_iff.mpr ct
    subst ct
    rw [if_neg (show ¬ (false = true) by decide)] at h2
    simp only [Option.some.injEq, Prod.mk.injEq] at h2
    obtain ⟨rfl, rfl⟩ := h2
    go_enter Try.func43, Try.ntmps43
    go_wp2_with (first | ((with_reducible refine gate_dst (N := 2) rfl ?_); refine box_event ?hg (N := 2) ?hd (cs := #[.int .i64 t0, .int .i64 t1, .int .i64 t2, .int .i64 t3]) (t := 60) ?hr ?_; (case hd => rfl); (case hg => rfl); (case hr => first | (go_simp; done) | (go_simp; rfl)); intro gg hgg w1 hbox hb; have HBG := Aside0.mk hbox; have HB1 := Aside0.mk hb; have HGG := Aside0.mk (Nat.le_of_eq hgg.symm : w.heap.size ≤ gg); clear hgg hb hbox) | ((with_reducible refine gate_dst (N := 12) rfl ?_); refine zLoadBox4 (t := 60) (e := 3) rfl rfl Try.underlying60 (by kernel_rfl) rfl HBG.out ?_) | (go_at_call 63; refine (impl_votesOn.calls t0 t1 t2 t3 _).mono ?_; rintro e w2 ⟨bg, bk, bf, B, rfl, hE, l1, l2, l3, l4, hb⟩; have HE := Aside0.mk hE; have HLs := Aside0.mk (And.intro l1 (And.intro l2 (And.intro l3 l4))); have HB2 := Aside0.mk (below_step HB1.out hb); have HBG2 := Aside0.mk (blk_below HBG.out hb); have HGL := Aside0.mk (blk_lt HBG.out); clear hE l1 l2 l3 l4 hb) | (go_at_fn 83; refine (impl_votesOn_2.Env.call HE.out 18 (by decide) 0 0 0 0 s0 (by decide) (by decide) (by decide) (by decide) HS.out).mono ?_; rintro e w3 ⟨rfl, hg, n3, hn3, hE3⟩; have HG3 := Aside0.mk hg; have HN3 := Aside0.mk hn3; have HE3 := Aside0.mk hE3; clear hg hn3 hE3) | (go_at_call 32; refine (impl_in.calls a1 0 (wrap64 (s0 - 1)) false _ HI.out).mono ?_; rintro e w4 ⟨rfl, ⟨nd, rfl⟩⟩))
    go_ret2
    exact ⟨by first | rfl | (simp; done), pw_below_drewN (HB2.out.grown HG3.out HB2.out.size (fun j e => by injection e with e; subst e; have h1 := HB1.out.size; have h2 := HLs.out; omega)) _⟩

/-! ### impl_OrderedOfRank: function 14 -/
def impl_OrderedOfRank.f (k : Nat) (l0 : List Int) (a1 : Int) : Option (ByteArray × Bool) := (impl_resultOf.f k l0).bind fun bt196 => (if bt196.2.2.2.2 = true then ((impl_tally_ofRank.f k bt196.1 bt196.2.1 bt196.2.2.1 bt196.2.2.2.1 a1).bind fun bt202 => (some (bt202.1, bt202.2))) else (some ((⟨#[]⟩ : ByteArray), false)))
theorem impl_OrderedOfRank.mono : ∀ a0 a1 k, LeO (impl_OrderedOfRank.f k a0 a1) (impl_OrderedOfRank.f (k + 1) a0 a1) := by
  intro a0 a1 k
  unfold impl_OrderedOfRank.f
  repeat' first
      | (with_reducible exact impl_resultOf.mono _ _)
      | (with_reducible exact impl_tally_ofRank.mono _ _ _ _ _ _)
      | (with_reducible exact LeO.refl _)
      | (with_reducible exact LeO.none _)
      | (with_reducible refine LeO.ite ?_ ?_)
      | (with_reducible refine LeO.bind ?_ (fun _ => ?_))
      | exact impl_resultOf.mono _ _
      | exact impl_tally_ofRank.mono _ _ _ _ _ _
      | exact LeO.none _
      | refine LeO.ite ?_ ?_
      | refine LeO.bind ?_ (fun _ => ?_)
set_option maxHeartbeats 8000000 in
set_option maxRecDepth 100000 in
theorem impl_OrderedOfRank.calls (k : Nat) (A0 : Option Addr) (c0 : Nat) (l0 : List Int) (a1 : Int) (r1 : ByteArray) (r2 : Bool) (w : World) (hr0 : Kd.C (Kd.int .i64) w A0 l0.length l0) (hc0 : l0.length ≤ c0) (h : impl_OrderedOfRank.f k l0 a1 = some (r1, r2)) :
    Calls Try.prog 14 #[.slice A0 l0.length c0, .int .i64 a1] w fun e w' => e = .returned (.tuple #[.string r1, .bool r2]) ∧ Below w.heap.size w w' := by
  have hu60 := Try.underlying60
  have HR0 := Aside0.mk hr0
  have HC0 := Aside0.mk hc0
  clear hr0 hc0
  have HB := Aside0.mk (Below.refl w.heap.size w)
  have H : ((impl_resultOf.f k l0).bind fun bt196 => (if bt196.2.2.2.2 = true then ((impl_tally_ofRank.f k bt196.1 bt196.2.1 bt196.2.2.1 bt196.2.2.2.1 a1).bind fun bt202 => (some (bt202.1, bt202.2))) else (some ((⟨#[]⟩ : ByteArray), false)))) = some (r1, r2) := h
  clear h
  replace H := Option.bind_eq_some_iff.mp H
  obtain ⟨⟨t196, t197, t198, t199, t200⟩, A30, H⟩ := H
  replace H : (if t200 = true then ((impl_tally_ofRank.f k t196 t197 t198 t199 a1).bind fun bt202 => (some (bt202.1, bt202.2))) else (some ((⟨#[]⟩ : ByteArray), false))) = some (r1, r2) := H
  have A3 := Aside0.mk A30
  clear A30
  by_cases c4 : t200 = true
  · subst c4
    have H1 : ((impl_tally_ofRank.f k t196 t197 t198 t199 a1).bind fun bt202 => (some (bt202.1, bt202.2))) = some (r1, r2) := by rw [if_pos rfl] at H; exact H
    clear H
    have H := H1
    clear H1
    replace H := Option.bind_eq_some_iff.mp H
    obtain ⟨⟨t202, t203⟩, A50, H⟩ := H
    replace H : (some (t202, t203)) = some (r1, r2) := H
    have A5 := Aside0.mk A50
    clear A50
    simp only [Option.some.injEq, Prod.mk.injEq] at H
    obtain ⟨rfl, rfl⟩ := H
    go_enter Try.func14, Try.ntmps14
    go_wp2_with (first | ((with_reducible refine gate_callee (f := 42) rfl ?_); refine goesL_ (some 10) rfl rfl Try.func42 (by kernel_rfl) rfl #[.slice A0 l0.length c0] rfl (by (try simp only [List.map_toArray, List.map_cons, List.map_nil]); first | done | rfl | (simp only [List.length_drop, List.length_take]; rfl)) ?_; (with_reducible refine (impl_resultOf.calls k _ _ l0 t196 t197 t198 t199 true _ ?side1 ?side2 A3.out).mono ?_); (case side1 => repeat (first | exact HR0.out | (with_reducible refine Kd.C_alloc ?_ _) | (with_reducible refine Kd.C_drewN ?_ _) | (with_reducible refine Kd.C_drew ?_))); (case side2 => exact HC0.out); rintro e w6 ⟨rfl, hb⟩; refine ⟨_, rfl, ?_⟩; have n0_ := Aside0.mk (below_step (by repeat (first | (with_reducible first | exact HB.out | apply below_alloc | apply pw_below_drewN | apply below_drew1) | exact HB.out)) hb); clear HB; have HB := n0_; clear n0_; (try clear hb); (try clear hb2); (try clear hk); (try clear hi)) | ((with_reducible refine gate_dst (N := 6) rfl ?_); refine box_event ?hg (N := 6) ?hd (cs := #[.int .i64 0, .int .i64 0, .int .i64 0, .int .i64 0]) (t := 60) ?hr ?_; (case hd => rfl); (case hg => rfl); (case hr => first | (go_simp; done) | (go_simp; rfl)); intro gb201 hg w7 hbox hb; have n0_ := Aside0.mk (below_step (by repeat (first | (with_reducible first | exact HB.out | apply below_alloc | apply pw_below_drewN | apply below_drew1) | exact HB.out)) hb); have n1_ := Aside0.mk (hbox); have n2_ := Aside0.mk ((by rw [hg]; exact (below_size (by repeat (first | (with_reducible first | exact HB.out | apply below_alloc | apply pw_below_drewN | apply below_drew1) | exact HB.out))) : w.heap.size ≤ gb201)); have n3_ := Aside0.mk ((by rw [hg]; exact (below_size (by repeat (first | (with_reducible first | exact HB.out | apply below_alloc | apply pw_below_drewN | apply below_drew1) | exact HB.out))) : w.heap.size ≤ gb201)); clear HB; have HB := n0_; have BK201 := n1_; have GW201 := n2_; have GE201 := n3_; clear n0_ n1_ n2_ n3_; clear hb hbox hg; have hcz8_0 : w7.cell? ⟨gb201, 0, none⟩ = some (.int .i64 0) := (blk_cell BK201.out 0).trans rfl; have hcz8_1 : w7.cell? ⟨gb201, 1, none⟩ = some (.int .i64 0) := (blk_cell BK201.out 1).trans rfl; have hcz8_2 : w7.cell? ⟨gb201, 2, none⟩ = some (.int .i64 0) := (blk_cell BK201.out 2).trans rfl; have hcz8_3 : w7.cell? ⟨gb201, 3, none⟩ = some (.int .i64 0) := (blk_cell BK201.out 3).trans rfl; have hfz8_0 := blk_frozen BK201.out 0; have hfz8_1 := blk_frozen BK201.out 1; have hfz8_2 := blk_frozen BK201.out 2; have hfz8_3 := blk_frozen BK201.out 3) | ((with_reducible refine gate_callee (f := 43) rfl ?_); refine goesL_ (some 17) rfl rfl Try.func43 (by kernel_rfl) rfl #[.agg #[.int .i64 t196, .int .i64 t197, .int .i64 t198, .int .i64 t199], .int .i64 a1] rfl (by (try simp only [List.map_toArray, List.map_cons, List.map_nil]); first | done | rfl | (simp only [List.length_drop, List.length_take]; rfl)) ?_; (with_reducible refine (impl_tally_ofRank.calls k t196 t197 t198 t199 a1 t202 t203 _ A5.out).mono ?_); rintro e w9 ⟨rfl, hb⟩; refine ⟨_, rfl, ?_⟩; have n0_ := Aside0.mk (blk_below (g := gb201) (o := .cells #[.int .i64 t196, .int .i64 t197, .int .i64 t198, .int .i64 t199] 60 (0, 0)) (by (with_reducible repeat (first | refine blk_drewN ?_ _ | refine blk_drew ?_ | refine blk_alloc ?_ _)); refine blk_put (cs := #[.int .i64 t196, .int .i64 t197, .int .i64 t198, .int .i64 0]) ?_ 3 _ rfl; (with_reducible repeat (first | refine blk_drewN ?_ _ | refine blk_drew ?_ | refine blk_alloc ?_ _)); refine blk_put (cs := #[.int .i64 t196, .int .i64 t197, .int .i64 0, .int .i64 0]) ?_ 2 _ rfl; (with_reducible repeat (first | refine blk_drewN ?_ _ | refine blk_drew ?_ | refine blk_alloc ?_ _)); refine blk_put (cs := #[.int .i64 t196, .int .i64 0, .int .i64 0, .int .i64 0]) ?_ 1 _ rfl; (with_reducible repeat (first | refine blk_drewN ?_ _ | refine blk_drew ?_ | refine blk_alloc ?_ _)); refine blk_put (cs := #[.int .i64 0, .int .i64 0, .int .i64 0, .int .i64 0]) ?_ 0 _ rfl; (with_reducible repeat (first | refine blk_drewN ?_ _ | refine blk_drew ?_ | refine blk_alloc ?_ _)); exact BK201.out) hb); have n1_ := Aside0.mk (below_step (by repeat (first | (with_reducible first | exact HB.out | apply below_alloc | apply pw_below_drewN | apply below_drew1 | refine below_set ?_ GE201.out) | exact HB.out)) hb); clear BK201; clear HB; have BK201 := n0_; have HB := n1_; clear n0_ n1_; (try clear hb); (try clear hb2); (try clear hk); (try clear hi)))
    go_ret2
    exact ⟨by first | rfl | (simp [errW_none, errW_some] <;> rfl) | (simp [*, errW_none, errW_some] <;> rfl), by repeat (first | (with_reducible first | exact HB.out | apply below_alloc | apply pw_below_drewN | apply below_drew1 | refine below_set ?_ GE201.out) | exact HB.out)⟩
  · replace c4 := Bool.eq_false_iff.mpr c4
    subst c4
    have H1 : (some ((⟨#[]⟩ : ByteArray), false)) = some (r1, r2) := by rw [if_neg (show ¬ (false = true) by decide)] at H; exact H
    clear H
    have H := H1
    clear H1
    simp only [Option.some.injEq, Prod.mk.injEq] at H
    obtain ⟨rfl, rfl⟩ := H
    go_enter Try.func14, Try.ntmps14
    go_wp2_with (first | ((with_reducible refine gate_callee (f := 42) rfl ?_); refine goesL_ (some 10) rfl rfl Try.func42 (by kernel_rfl) rfl #[.slice A0 l0.length c0] rfl (by (try simp only [List.map_toArray, List.map_cons, List.map_nil]); first | done | rfl | (simp only [List.length_drop, List.length_take]; rfl)) ?_; (with_reducible refine (impl_resultOf.calls k _ _ l0 t196 t197 t198 t199 false _ ?side1 ?side2 A3.out).mono ?_); (case side1 => repeat (first | exact HR0.out | (with_reducible refine Kd.C_alloc ?_ _) | (with_reducible refine Kd.C_drewN ?_ _) | (with_reducible refine Kd.C_drew ?_))); (case side2 => exact HC0.out); rintro e w10 ⟨rfl, hb⟩; refine ⟨_, rfl, ?_⟩; have n0_ := Aside0.mk (below_step (by repeat (first | (with_reducible first | exact HB.out | apply below_alloc | apply pw_below_drewN | apply below_drew1) | exact HB.out)) hb); clear HB; have HB := n0_; clear n0_; (try clear hb); (try clear hb2); (try clear hk); (try clear hi)) | ((with_reducible refine gate_dst (N := 6) rfl ?_); refine box_event ?hg (N := 6) ?hd (cs := #[.int .i64 0, .int .i64 0, .int .i64 0, .int .i64 0]) (t := 60) ?hr ?_; (case hd => rfl); (case hg => rfl); (case hr => first | (go_simp; done) | (go_simp; rfl)); intro gb201 hg w11 hbox hb; have n0_ := Aside0.mk (below_step (by repeat (first | (with_reducible first | exact HB.out | apply below_alloc | apply pw_below_drewN | apply below_drew1) | exact HB.out)) hb); have n1_ := Aside0.mk (hbox); have n2_ := Aside0.mk ((by rw [hg]; exact (below_size (by repeat (first | (with_reducible first | exact HB.out | apply below_alloc | apply pw_below_drewN | apply below_drew1) | exact HB.out))) : w.heap.size ≤ gb201)); have n3_ := Aside0.mk ((by rw [hg]; exact (below_size (by repeat (first | (with_reducible first | exact HB.out | apply below_alloc | apply pw_below_drewN | apply below_drew1) | exact HB.out))) : w.heap.size ≤ gb201)); clear HB; have HB := n0_; have BK201 := n1_; have GW201 := n2_; have GE201 := n3_; clear n0_ n1_ n2_ n3_; clear hb hbox hg; have hcz12_0 : w11.cell? ⟨gb201, 0, none⟩ = some (.int .i64 0) := (blk_cell BK201.out 0).trans rfl; have hcz12_1 : w11.cell? ⟨gb201, 1, none⟩ = some (.int .i64 0) := (blk_cell BK201.out 1).trans rfl; have hcz12_2 : w11.cell? ⟨gb201, 2, none⟩ = some (.int .i64 0) := (blk_cell BK201.out 2).trans rfl; have hcz12_3 : w11.cell? ⟨gb201, 3, none⟩ = some (.int .i64 0) := (blk_cell BK201.out 3).trans rfl; have hfz12_0 := blk_frozen BK201.out 0; have hfz12_1 := blk_frozen BK201.out 1; have hfz12_2 := blk_frozen BK201.out 2; have hfz12_3 := blk_frozen BK201.out 3))
    go_ret2
    exact ⟨by first | rfl | (simp [errW_none, errW_some] <;> rfl) | (simp [*, errW_none, errW_some] <;> rfl), by repeat (first | (with_reducible first | exact HB.out | apply below_alloc | apply pw_below_drewN | apply below_drew1 | refine below_set ?_ GE201.out) | exact HB.out)⟩

/-! ### laws_FnExactOrderedOfRank: function 4 -/
def laws_FnExactOrderedOfRank.j0 : Nat → List Int → List Int → Bool → Option (Bool)
  | 0, _, _, _ => none
  | k + 1, x0, x7, x35 => if x35 = true then (some false) else ((laws_toIntS.f k x0).bind fun t214 => ((laws_eqIntS.f k x7 t214).bind fun t217 => (if t217 = true then (some true) else (some false))))
def laws_FnExactOrderedOfRank.f (k : Nat) (l0 : List Int) (a1 : Int) : Option (Bool) := if (l0.length : Int) > 1048576 then (some true) else ((laws_toIntS.f k l0).bind fun t204 => ((spec_OrderedOfRank.f k t204 a1).bind fun bt207 => ((laws_toIntS.f k l0).bind fun t209 => ((impl_OrderedOfRank.f k t209 a1).bind fun bt212 => (if bt212.1.toList = bt207.1.toList then (laws_FnExactOrderedOfRank.j0 k l0 t209 (bt212.2 != bt207.2)) else (laws_FnExactOrderedOfRank.j0 k l0 t209 true))))))
theorem laws_FnExactOrderedOfRank.mono_l : ∀ k, (∀ y0 y1 y2, LeO (laws_FnExactOrderedOfRank.j0 k y0 y1 y2) (laws_FnExactOrderedOfRank.j0 (k + 1) y0 y1 y2))
  | 0 => fun _ _ _ r h => by simp [laws_FnExactOrderedOfRank.j0] at h
  | k + 1 => by
    have ih0 := laws_FnExactOrderedOfRank.mono_l k
    · intro y0 y1 y2
      unfold laws_FnExactOrderedOfRank.j0
      repeat' first
      | (with_reducible exact ih0 _ _ _)
      | (with_reducible exact impl_OrderedOfRank.mono _ _ _)
      | (with_reducible exact laws_eqIntS.mono _ _ _)
      | (with_reducible exact laws_toIntS.mono _ _)
      | (with_reducible exact spec_OrderedOfRank.mono _ _ _)
      | (with_reducible exact LeO.refl _)
      | (with_reducible exact LeO.none _)
      | (with_reducible refine LeO.ite ?_ ?_)
      | (with_reducible refine LeO.bind ?_ (fun _ => ?_))
      | exact ih0 _ _ _
      | exact impl_OrderedOfRank.mono _ _ _
      | exact laws_eqIntS.mono _ _ _
      | exact laws_toIntS.mono _ _
      | exact spec_OrderedOfRank.mono _ _ _
      | exact LeO.none _
      | refine LeO.ite ?_ ?_
      | refine LeO.bind ?_ (fun _ => ?_)
theorem laws_FnExactOrderedOfRank.mono : ∀ a0 a1 k, LeO (laws_FnExactOrderedOfRank.f k a0 a1) (laws_FnExactOrderedOfRank.f (k + 1) a0 a1) := by
  intro a0 a1 k
  have ih0 := laws_FnExactOrderedOfRank.mono_l k
  unfold laws_FnExactOrderedOfRank.f
  repeat' first
      | (with_reducible exact ih0 _ _ _)
      | (with_reducible exact impl_OrderedOfRank.mono _ _ _)
      | (with_reducible exact laws_eqIntS.mono _ _ _)
      | (with_reducible exact laws_toIntS.mono _ _)
      | (with_reducible exact spec_OrderedOfRank.mono _ _ _)
      | (with_reducible exact LeO.refl _)
      | (with_reducible exact LeO.none _)
      | (with_reducible refine LeO.ite ?_ ?_)
      | (with_reducible refine LeO.bind ?_ (fun _ => ?_))
      | exact ih0 _ _ _
      | exact impl_OrderedOfRank.mono _ _ _
      | exact laws_eqIntS.mono _ _ _
      | exact laws_toIntS.mono _ _
      | exact spec_OrderedOfRank.mono _ _ _
      | exact LeO.none _
      | refine LeO.ite ?_ ?_
      | refine LeO.bind ?_ (fun _ => ?_)
set_option maxHeartbeats 8000000 in
set_option maxRecDepth 100000 in
theorem laws_FnExactOrderedOfRank.calls (k : Nat) (A0 : Option Addr) (c0 : Nat) (l0 : List Int) (a1 : Int) (r : Bool) (w : World) (hr0 : Kd.C (Kd.int .i64) w A0 l0.length l0) (hc0 : l0.length ≤ c0) (h : laws_FnExactOrderedOfRank.f k l0 a1 = some r) :
    Calls Try.prog 4 #[.slice A0 l0.length c0, .int .i64 a1] w fun e w' => e = .returned (.bool r) ∧ Below w.heap.size w w' := by
  have HR0 := Aside0.mk hr0
  have HC0 := Aside0.mk hc0
  clear hr0 hc0
  have HB := Aside0.mk (Below.refl w.heap.size w)
  have H : (if (l0.length : Int) > 1048576 then (some true) else ((laws_toIntS.f k l0).bind fun t204 => ((spec_OrderedOfRank.f k t204 a1).bind fun bt207 => ((laws_toIntS.f k l0).bind fun t209 => ((impl_OrderedOfRank.f k t209 a1).bind fun bt212 => (if bt212.1.toList = bt207.1.toList then (laws_FnExactOrderedOfRank.j0 k l0 t209 (bt212.2 != bt207.2)) else (laws_FnExactOrderedOfRank.j0 k l0 t209 true))))))) = some r := h
  clear h
  by_cases c3 : (l0.length : Int) > 1048576
  · rw [if_pos c3] at H
    have c3b0 : decide (1048576 < (l0.length : Int)) = true := decide_eq_true c3
    have c3b1 : decide (1048576 < l0.length) = true := decide_eq_true (by omega)
    clear c3
    obtain rfl := Option.some.inj H
    go_enter Try.func4, Try.ntmps4
    go_wp2
    go_ret
    exact ⟨by first | rfl | (simp [errW_none, errW_some] <;> rfl) | (simp [*, errW_none, errW_some] <;> rfl), by repeat (first | (with_reducible first | exact HB.out | apply below_alloc | apply pw_below_drewN | apply below_drew1) | exact HB.out)⟩
  · rw [if_neg c3] at H
    have c3b0 : decide (1048576 < (l0.length : Int)) = false := decide_eq_false c3
    have c3b1 : decide (1048576 < l0.length) = false := decide_eq_false (by omega)
    clear c3
    replace H := Option.bind_eq_some_iff.mp H
    obtain ⟨t204, A40, H⟩ := H
    replace H : ((spec_OrderedOfRank.f k t204 a1).bind fun bt207 => ((laws_toIntS.f k l0).bind fun t209 => ((impl_OrderedOfRank.f k t209 a1).bind fun bt212 => (if bt212.1.toList = bt207.1.toList then (laws_FnExactOrderedOfRank.j0 k l0 t209 (bt212.2 != bt207.2)) else (laws_FnExactOrderedOfRank.j0 k l0 t209 true))))) = some r := H
    have A4 := Aside0.mk A40
    clear A40
    replace H := Option.bind_eq_some_iff.mp H
    obtain ⟨⟨t207, t208⟩, A50, H⟩ := H
    replace H : ((laws_toIntS.f k l0).bind fun t209 => ((impl_OrderedOfRank.f k t209 a1).bind fun bt212 => (if bt212.1.toList = t207.toList then (laws_FnExactOrderedOfRank.j0 k l0 t209 (bt212.2 != t208)) else (laws_FnExactOrderedOfRank.j0 k l0 t209 true)))) = some r := H
    have A5 := Aside0.mk A50
    clear A50
    replace H := Option.bind_eq_some_iff.mp H
    obtain ⟨t209, A60, H⟩ := H
    replace H : ((impl_OrderedOfRank.f k t209 a1).bind fun bt212 => (if bt212.1.toList = t207.toList then (laws_FnExactOrderedOfRank.j0 k l0 t209 (bt212.2 != t208)) else (laws_FnExactOrderedOfRank.j0 k l0 t209 true))) = some r := H
    have A6 := Aside0.mk A60
    clear A60
    replace H := Option.bind_eq_some_iff.mp H
    obtain ⟨⟨t212, t213⟩, A70, H⟩ := H
    replace H : (if t212.toList = t207.toList then (laws_FnExactOrderedOfRank.j0 k l0 t209 (t213 != t208)) else (laws_FnExactOrderedOfRank.j0 k l0 t209 true)) = some r := H
    have A7 := Aside0.mk A70
    clear A70
    have HC8 := Aside0.mk H
    clear H
    go_enter Try.func4, Try.ntmps4
    go_upto_region 6 with (first | ((with_reducible refine gate_callee (f := 13) rfl ?_); refine goesL_ (some 15) rfl rfl Try.func13 (by kernel_rfl) rfl #[.slice A0 l0.length c0] rfl (by (try simp only [List.map_toArray, List.map_cons, List.map_nil]); first | done | rfl | (simp only [List.length_drop, List.length_take]; rfl)) ?_; (with_reducible refine (laws_toIntS.calls k _ _ l0 t204 _ ?side1 ?side2 A4.out).mono ?_); (case side1 => repeat (first | exact HR0.out | (with_reducible refine Kd.C_alloc ?_ _) | (with_reducible refine Kd.C_drewN ?_ _) | (with_reducible refine Kd.C_drew ?_))); (case side2 => exact HC0.out); rintro e w9 ⟨v205, rfl, ho0, hb⟩; refine ⟨_, rfl, ?_⟩; have n0_ := Aside0.mk (Kd.R_lower ho0 (below_size (by repeat (first | (with_reducible first | exact HB.out | apply below_alloc | apply pw_below_drewN | apply below_drew1) | exact HB.out)))); have n1_ := Aside0.mk (below_step (by repeat (first | (with_reducible first | exact HB.out | apply below_alloc | apply pw_below_drewN | apply below_drew1) | exact HB.out)) hb); clear HB; have HO206 := n0_; have HB := n1_; clear n0_ n1_; (try clear hb); (try clear hb2); (try clear hk); (try clear hi); (try clear ho0); obtain ⟨Ao10, co10, eo10⟩ := Kd.R_slice HO206.out; subst eo10) | ((with_reducible refine gate_callee (f := 12) rfl ?_); refine goesL_ (some 17) rfl rfl Try.func12 (by kernel_rfl) rfl #[.slice Ao10 t204.length co10, .int .i64 a1] rfl (by (try simp only [List.map_toArray, List.map_cons, List.map_nil]); first | done | rfl | (simp only [List.length_drop, List.length_take]; rfl)) ?_; (with_reducible refine (spec_OrderedOfRank.calls k _ _ t204 a1 t207 t208 _ ?side1 ?side2 A5.out).mono ?_); (case side1 => repeat (first | exact (Kd.R_reads' HO206.out).2.2 | (with_reducible refine Kd.C_alloc ?_ _) | (with_reducible refine Kd.C_drewN ?_ _) | (with_reducible refine Kd.C_drew ?_))); (case side2 => exact (Kd.R_reads' HO206.out).2.1); rintro e w11 ⟨rfl, hb⟩; refine ⟨_, rfl, ?_⟩; have n0_ := Aside0.mk (Kd.R_below (by (with_reducible repeat (first | apply Kd.R_alloc | apply Kd.R_drewN | apply Kd.R_drew)); exact HO206.out) hb); have n1_ := Aside0.mk (below_step (by repeat (first | (with_reducible first | exact HB.out | apply below_alloc | apply pw_below_drewN | apply below_drew1) | exact HB.out)) hb); clear HO206; clear HB; have HO206 := n0_; have HB := n1_; clear n0_ n1_; (try clear hb); (try clear hb2); (try clear hk); (try clear hi)) | ((with_reducible refine gate_callee (f := 13) rfl ?_); refine goesL_ (some 21) rfl rfl Try.func13 (by kernel_rfl) rfl #[.slice A0 l0.length c0] rfl (by (try simp only [List.map_toArray, List.map_cons, List.map_nil]); first | done | rfl | (simp only [List.length_drop, List.length_take]; rfl)) ?_; (with_reducible refine (laws_toIntS.calls k _ _ l0 t209 _ ?side1 ?side2 A6.out).mono ?_); (case side1 => repeat (first | exact (Kd.C_below HR0.out HB.out) | (with_reducible refine Kd.C_alloc ?_ _) | (with_reducible refine Kd.C_drewN ?_ _) | (with_reducible refine Kd.C_drew ?_))); (case side2 => exact HC0.out); rintro e w12 ⟨v210, rfl, ho0, hb⟩; refine ⟨_, rfl, ?_⟩; have n0_ := Aside0.mk (Kd.R_elder' (by (with_reducible repeat (first | apply Kd.R_alloc | apply Kd.R_drewN | apply Kd.R_drew)); exact HO206.out) (Kd.R_base ho0) hb); have n1_ := Aside0.mk (Kd.R_lower (Kd.R_new' ho0 (Kd.R_lt (by (with_reducible repeat (first | apply Kd.R_alloc | apply Kd.R_drewN | apply Kd.R_drew)); exact HO206.out))) (below_size (by repeat (first | (with_reducible first | exact HB.out | apply below_alloc | apply pw_below_drewN | apply below_drew1) | exact HB.out)))); have n2_ := Aside0.mk (below_step (by repeat (first | (with_reducible first | exact HB.out | apply below_alloc | apply pw_below_drewN | apply below_drew1) | exact HB.out)) hb); clear HO206; clear HB; have HO206 := n0_; have HO211 := n1_; have HB := n2_; clear n0_ n1_ n2_; (try clear hb); (try clear hb2); (try clear hk); (try clear hi); (try clear ho0); obtain ⟨Ao13, co13, eo13⟩ := Kd.R_slice HO211.out; subst eo13) | ((with_reducible refine gate_callee (f := 14) rfl ?_); refine goesL_ (some 25) rfl rfl Try.func14 (by kernel_rfl) rfl #[.slice Ao13 t209.length co13, .int .i64 a1] rfl (by (try simp only [List.map_toArray, List.map_cons, List.map_nil]); first | done | rfl | (simp only [List.length_drop, List.length_take]; rfl)) ?_; (with_reducible refine (impl_OrderedOfRank.calls k _ _ t209 a1 t212 t213 _ ?side1 ?side2 A7.out).mono ?_); (case side1 => repeat (first | exact (Kd.R_reads' HO211.out).2.2 | (with_reducible refine Kd.C_alloc ?_ _) | (with_reducible refine Kd.C_drewN ?_ _) | (with_reducible refine Kd.C_drew ?_))); (case side2 => exact (Kd.R_reads' HO211.out).2.1); rintro e w14 ⟨rfl, hb⟩; refine ⟨_, rfl, ?_⟩; have n0_ := Aside0.mk (Kd.R_below (by (with_reducible repeat (first | apply Kd.R_alloc | apply Kd.R_drewN | apply Kd.R_drew)); exact HO206.out) hb); have n1_ := Aside0.mk (Kd.R_below (by (with_reducible repeat (first | apply Kd.R_alloc | apply Kd.R_drewN | apply Kd.R_drew)); exact HO211.out) hb); have n2_ := Aside0.mk (below_step (by repeat (first | (with_reducible first | exact HB.out | apply below_alloc | apply pw_below_drewN | apply below_drew1) | exact HB.out)) hb); clear HO206; clear HO211; clear HB; have HO206 := n0_; have HO211 := n1_; have HB := n2_; clear n0_ n1_ n2_; (try clear hb); (try clear hb2); (try clear hk); (try clear hi)))
    (try simp only [Act.put, List.setIfInBounds_toArray, List.set_cons_zero, List.set_cons_succ])
    go_cut [35] (fun v35 wc => ∃ (kq : Nat) (x35_7 : Bool), v35 = .bool x35_7 ∧ Aside0 (laws_FnExactOrderedOfRank.j0 kq l0 t209 x35_7 = some r) ∧ Aside0 (kq ≤ k) ∧ Aside0 (Kd.R (Kd.int .i64) 3 wc w.heap.size (fun _ => True) (.slice Ao13 t209.length co13) t209) ∧ Aside0 (Below w.heap.size w wc))
    case first =>
      have H := HC8.out
      clear HC8
      by_cases c15 : t212.toList = t207.toList
      · rw [if_pos c15] at H
        have c15b0 : (t212.toList == t207.toList) = true := beq_iff_eq.mpr c15
        have c15b1 : (t212.toList != t207.toList) = false := bne_eq_false_iff_eq.mpr c15
        clear c15
        (first | rw [c15b0] | (simp only [i64_w, i32_w]; rw [c15b0]) | skip)
        have H' := Aside0.mk H
        clear H
        go_wp2
        go_meet
        case rel => exact ⟨_, ((t213 != t208)), (by first | rfl | (simp; done) | (simp [*]; done)), H', ⟨by first | omega | exact Nat.le_refl _⟩, ⟨by (with_reducible repeat (first | apply Kd.R_alloc | apply Kd.R_drewN | apply Kd.R_drew)); exact Kd.R_mono HO211.out (fun _ hk => trivial)⟩, ⟨by repeat (first | (with_reducible first | exact HB.out | apply below_alloc | apply pw_below_drewN | apply below_drew1) | exact HB.out)⟩⟩
      · rw [if_neg c15] at H
        have c15b0 : (t212.toList == t207.toList) = false := beq_eq_false_iff_ne.mpr c15
        have c15b1 : (t212.toList != t207.toList) = true := bne_iff_ne.mpr c15
        (first | rw [c15b0] | (simp only [i64_w, i32_w]; rw [c15b0]) | skip)
        have H' := Aside0.mk H
        clear H
        go_wp2
        go_meet
        case rel => exact ⟨_, (true), (by first | rfl | (simp; done) | (simp [*]; done)), H', ⟨by first | omega | exact Nat.le_refl _⟩, ⟨by (with_reducible repeat (first | apply Kd.R_alloc | apply Kd.R_drewN | apply Kd.R_drew)); exact Kd.R_mono HO211.out (fun _ hk => trivial)⟩, ⟨by repeat (first | (with_reducible first | exact HB.out | apply below_alloc | apply pw_below_drewN | apply below_drew1) | exact HB.out)⟩⟩
    case rest =>
      clear HC8
      try clear c1
      try clear p2
      try clear c3
      try clear c3b0
      try clear c3b1
      try clear c4
      try clear c12
      try clear c13
      try clear c14
      try clear c15
      try clear c15b0
      try clear c15b1
      obtain ⟨kq, x35_7, rfl, HA, HJ7, HO_7, HB⟩ := hcut
      cases kq with
      | zero => exact absurd HA.out (by simp [laws_FnExactOrderedOfRank.j0])
      | succ kj7 =>
        have H := HA.out
        clear HA
        simp only [laws_FnExactOrderedOfRank.j0] at H
        by_cases c16 : x35_7 = true
        · subst c16
          have H1 : (some false) = some r := by rw [if_pos rfl] at H; exact H
          clear H
          have H := H1
          clear H1
          obtain rfl := Option.some.inj H
          go_wp2
          go_ret
          exact ⟨by first | rfl | (simp [errW_none, errW_some] <;> rfl) | (simp [*, errW_none, errW_some] <;> rfl), by repeat (first | (with_reducible first | exact HB.out | apply below_alloc | apply pw_below_drewN | apply below_drew1) | exact HB.out)⟩
        · replace c16 := Bool.eq_false_iff.mpr c16
          subst c16
          have H1 : ((laws_toIntS.f kj7 l0).bind fun t214 => ((laws_eqIntS.f kj7 t209 t214).bind fun t217 => (if t217 = true then (some true) else (some false)))) = some r := by rw [if_neg (show ¬ (false = true) by decide)] at H; exact H
          clear H
          have H := H1
          clear H1
          replace H := Option.bind_eq_some_iff.mp H
          obtain ⟨t214, A170, H⟩ := H
          replace H : ((laws_eqIntS.f kj7 t209 t214).bind fun t217 => (if t217 = true then (some true) else (some false))) = some r := H
          have A17 := Aside0.mk A170
          clear A170
          replace H := Option.bind_eq_some_iff.mp H
          obtain ⟨t217, A180, H⟩ := H
          replace H : (if t217 = true then (some true) else (some false)) = some r := H
          have A18 := Aside0.mk A180
          clear A180
          by_cases c19 : t217 = true
          · subst c19
            have H1 : (some true) = some r := by rw [if_pos rfl] at H; exact H
            clear H
            have H := H1
            clear H1
            obtain rfl := Option.some.inj H
            go_wp2_with (first | ((with_reducible refine gate_callee (f := 13) rfl ?_); refine goesL_ (some 38) rfl rfl Try.func13 (by kernel_rfl) rfl #[.slice A0 l0.length c0] rfl (by (try simp only [List.map_toArray, List.map_cons, List.map_nil]); first | done | rfl | (simp only [List.length_drop, List.length_take]; rfl)) ?_; (with_reducible refine (laws_toIntS.calls kj7 _ _ l0 t214 _ ?side1 ?side2 A17.out).mono ?_); (case side1 => repeat (first | exact (Kd.C_below HR0.out HB.out) | (with_reducible refine Kd.C_alloc ?_ _) | (with_reducible refine Kd.C_drewN ?_ _) | (with_reducible refine Kd.C_drew ?_))); (case side2 => exact HC0.out); rintro e w20 ⟨v215, rfl, ho0, hb⟩; refine ⟨_, rfl, ?_⟩; have n0_ := Aside0.mk (Kd.R_elder' (by (with_reducible repeat (first | apply Kd.R_alloc | apply Kd.R_drewN | apply Kd.R_drew)); exact HO_7.out) (Kd.R_base ho0) hb); have n1_ := Aside0.mk (Kd.R_lower (Kd.R_new' ho0 (Kd.R_lt (by (with_reducible repeat (first | apply Kd.R_alloc | apply Kd.R_drewN | apply Kd.R_drew)); exact HO_7.out))) (below_size (by repeat (first | (with_reducible first | exact HB.out | apply below_alloc | apply pw_below_drewN | apply below_drew1) | exact HB.out)))); have n2_ := Aside0.mk (below_step (by repeat (first | (with_reducible first | exact HB.out | apply below_alloc | apply pw_below_drewN | apply below_drew1) | exact HB.out)) hb); clear HO_7; clear HB; have HO_7 := n0_; have HO216 := n1_; have HB := n2_; clear n0_ n1_ n2_; (try clear hb); (try clear hb2); (try clear hk); (try clear hi); (try clear ho0); obtain ⟨Ao21, co21, eo21⟩ := Kd.R_slice HO216.out; subst eo21) | ((with_reducible refine gate_callee (f := 9) rfl ?_); refine goesL_ (some 39) rfl rfl Try.func9 (by kernel_rfl) rfl #[.slice Ao13 t209.length co13, .slice Ao21 t214.length co21] rfl (by (try simp only [List.map_toArray, List.map_cons, List.map_nil]); first | done | rfl | (simp only [List.length_drop, List.length_take]; rfl)) ?_; (with_reducible refine (laws_eqIntS.calls kj7 _ _ t209 _ _ t214 true _ ?side1 ?side2 ?side3 ?side4 A18.out).mono ?_); (case side1 => repeat (first | exact (Kd.R_reads' HO_7.out).2.2 | (with_reducible refine Kd.C_alloc ?_ _) | (with_reducible refine Kd.C_drewN ?_ _) | (with_reducible refine Kd.C_drew ?_))); (case side2 => exact (Kd.R_reads' HO_7.out).2.1); (case side3 => repeat (first | exact (Kd.R_reads' HO216.out).2.2 | (with_reducible refine Kd.C_alloc ?_ _) | (with_reducible refine Kd.C_drewN ?_ _) | (with_reducible refine Kd.C_drew ?_))); (case side4 => exact (Kd.R_reads' HO216.out).2.1); rintro e w' ⟨rfl, ⟨nd, rfl⟩⟩; refine ⟨_, rfl, ?_⟩))
            go_ret
            exact ⟨by first | rfl | (simp [errW_none, errW_some] <;> rfl) | (simp [*, errW_none, errW_some] <;> rfl), by repeat (first | (with_reducible first | exact HB.out | apply below_alloc | apply pw_below_drewN | apply below_drew1) | exact HB.out)⟩
          · replace c19 := Bool.eq_false_iff.mpr c19
            subst c19
            have H1 : (some false) = some r := by rw [if_neg (show ¬ (false = true) by decide)] at H; exact H
            clear H
            have H := H1
            clear H1
            obtain rfl := Option.some.inj H
            go_wp2_with (first | ((with_reducible refine gate_callee (f := 13) rfl ?_); refine goesL_ (some 38) rfl rfl Try.func13 (by kernel_rfl) rfl #[.slice A0 l0.length c0] rfl (by (try simp only [List.map_toArray, List.map_cons, List.map_nil]); first | done | rfl | (simp only [List.length_drop, List.length_take]; rfl)) ?_; (with_reducible refine (laws_toIntS.calls kj7 _ _ l0 t214 _ ?side1 ?side2 A17.out).mono ?_); (case side1 => repeat (first | exact (Kd.C_below HR0.out HB.out) | (with_reducible refine Kd.C_alloc ?_ _) | (with_reducible refine Kd.C_drewN ?_ _) | (with_reducible refine Kd.C_drew ?_))); (case side2 => exact HC0.out); rintro e w22 ⟨v215, rfl, ho0, hb⟩; refine ⟨_, rfl, ?_⟩; have n0_ := Aside0.mk (Kd.R_elder' (by (with_reducible repeat (first | apply Kd.R_alloc | apply Kd.R_drewN | apply Kd.R_drew)); exact HO_7.out) (Kd.R_base ho0) hb); have n1_ := Aside0.mk (Kd.R_lower (Kd.R_new' ho0 (Kd.R_lt (by (with_reducible repeat (first | apply Kd.R_alloc | apply Kd.R_drewN | apply Kd.R_drew)); exact HO_7.out))) (below_size (by repeat (first | (with_reducible first | exact HB.out | apply below_alloc | apply pw_below_drewN | apply below_drew1) | exact HB.out)))); have n2_ := Aside0.mk (below_step (by repeat (first | (with_reducible first | exact HB.out | apply below_alloc | apply pw_below_drewN | apply below_drew1) | exact HB.out)) hb); clear HO_7; clear HB; have HO_7 := n0_; have HO216 := n1_; have HB := n2_; clear n0_ n1_ n2_; (try clear hb); (try clear hb2); (try clear hk); (try clear hi); (try clear ho0); obtain ⟨Ao23, co23, eo23⟩ := Kd.R_slice HO216.out; subst eo23) | ((with_reducible refine gate_callee (f := 9) rfl ?_); refine goesL_ (some 39) rfl rfl Try.func9 (by kernel_rfl) rfl #[.slice Ao13 t209.length co13, .slice Ao23 t214.length co23] rfl (by (try simp only [List.map_toArray, List.map_cons, List.map_nil]); first | done | rfl | (simp only [List.length_drop, List.length_take]; rfl)) ?_; (with_reducible refine (laws_eqIntS.calls kj7 _ _ t209 _ _ t214 false _ ?side1 ?side2 ?side3 ?side4 A18.out).mono ?_); (case side1 => repeat (first | exact (Kd.R_reads' HO_7.out).2.2 | (with_reducible refine Kd.C_alloc ?_ _) | (with_reducible refine Kd.C_drewN ?_ _) | (with_reducible refine Kd.C_drew ?_))); (case side2 => exact (Kd.R_reads' HO_7.out).2.1); (case side3 => repeat (first | exact (Kd.R_reads' HO216.out).2.2 | (with_reducible refine Kd.C_alloc ?_ _) | (with_reducible refine Kd.C_drewN ?_ _) | (with_reducible refine Kd.C_drew ?_))); (case side4 => exact (Kd.R_reads' HO216.out).2.1); rintro e w' ⟨rfl, ⟨nd, rfl⟩⟩; refine ⟨_, rfl, ?_⟩))
            go_ret
            exact ⟨by first | rfl | (simp [errW_none, errW_some] <;> rfl) | (simp [*, errW_none, errW_some] <;> rfl), by repeat (first | (with_reducible first | exact HB.out | apply below_alloc | apply pw_below_drewN | apply below_drew1) | exact HB.out)⟩

/-- THE ONE PURE STATEMENT of laws_FnExactOrderedOfRank: yours. -/
def laws_FnExactOrderedOfRank.Pure : Prop := ∀ (l0 : List Int) (a1 : Int), l0.length ≤ maxLen → l0.length * 8 ≤ 140737488351232 → (∀ x ∈ l0, (Lit.int .i64 x).wf = true) → (Lit.int .i64 a1).wf = true → ∃ k, laws_FnExactOrderedOfRank.f k l0 a1 = some true
theorem laws_FnExactOrderedOfRank.walk (P : laws_FnExactOrderedOfRank.Pure) (a0 : Option Addr) (len0 cap0 : Nat) (z0 : List Int) (a1 : Int) (w : World) (w0 : (a0 = none ∧ len0 = 0 ∧ cap0 = 0 ∧ z0 = []) ∨ ∃ x, a0 = some x ∧ len0 ≤ cap0 ∧ cap0 ≤ maxLen ∧ z0.length = cap0 ∧ (∀ i, i < z0.length → w.cell? (x.add i) = some (.int .i64 (z0.getD i 0))) ∧ ∀ n ∈ z0, (Lit.int .i64 n).wf = true) (y0 : len0 * 8 ≤ 140737488351232) (w1 : (Lit.int .i64 a1).wf = true) :
    Calls Try.prog 4 #[.slice a0 len0 cap0, .int .i64 a1] w fun e w' => e = .returned (.bool true) ∧ Below w.heap.size w w' := by
  obtain ⟨l0, rfl, hr0, hm0, hw0, hc0⟩ := ReadsInt.ofRowC w0
  obtain ⟨k, h⟩ := P l0 a1 hm0 y0 hw0 w1
  refine (laws_FnExactOrderedOfRank.calls k _ _ l0 a1 true w (Kd.C_of_reads (d := (0 : Int)) (h1 := fun _ => rfl) hr0) hc0 h).mono ?_
  rintro e w' ⟨rfl, hd⟩
  exact ⟨rfl, hd⟩

end Go.Proofs.Ytgpebahbeccniaa.QFnExactOrderedOfRank
