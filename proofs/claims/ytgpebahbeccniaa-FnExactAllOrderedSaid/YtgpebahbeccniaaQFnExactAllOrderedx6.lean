/- Written by a program of this repo (xprint: a turned copy of the kit's print, with our own templates in it); Lean checks all of it. -/
import Derived.Test.YtgpebahbeccniaaQFnExactAllOrderedx0
import Derived.Test.YtgpebahbeccniaaQFnExactAllOrderedx4
import Derived.Test.YtgpebahbeccniaaQFnExactAllOrderedx5
namespace Go.Proofs.Ytgpebahbeccniaa.QFnExactAllOrdered
open Go.RowKit Go.Proofs.YtgpebahbeccniaaZ Go.Proofs.YtgpebahbeccniaaZm Go.Maps Go.Proofs.YtgpebahbeccniaaZt Go.Proofs.YtgpebahbeccniaaW.PrintWords Go.Proofs.YtgpebahbeccniaaW.PrintLast Go.Proofs.YtgpebahbeccniaaW.PrintMore
attribute [local go_sem] max2_int min2_int max_two min_two max_three min_three max_four min_four   -- for this text's walks alone
set_option linter.unusedVariables false
set_option linter.unusedSimpArgs false

/-! ### impl_tally_ofRank: function 43 -/
mutual
def impl_tally_ofRank.l0 : Nat → Int → Int → Int → Int → List Int → Int → Int → Int → Int → Int → Option (ByteArray × Bool)
  | 0, _, _, _, _, _, _, _, _, _, _ => none
  | k + 1, t0, t1, t2, t3, out, a, b, c, d, rank => if a = t0 ∧ b = t1 ∧ c = t2 ∧ d = t3 then some (strOfNums out, true) else impl_tally_ofRank.l1 k t0 t1 t2 t3 out a b c d rank 0
def impl_tally_ofRank.l1 : Nat → Int → Int → Int → Int → List Int → Int → Int → Int → Int → Int → Int → Option (ByteArray × Bool)
  | 0, _, _, _, _, _, _, _, _, _, _, _ => none
  | k + 1, t0, t1, t2, t3, out, a, b, c, d, rank, i => if i < 4 then ((impl_step.f 18 t0 t1 t2 t3 a b c d i).bind fun s => (if rank < s.2.2.2.2 then (if out.length < 140737488355328 then impl_tally_ofRank.l0 k t0 t1 t2 t3 (out ++ [bt (⟨#[97, 98, 99, 100]⟩ : ByteArray) i]) s.1 s.2.1 s.2.2.1 s.2.2.2.1 rank else none) else impl_tally_ofRank.l1 k t0 t1 t2 t3 out a b c d (wrap64 (rank - s.2.2.2.2)) (wrap64 (i + 1)))) else impl_tally_ofRank.l0 k t0 t1 t2 t3 out a b c d rank
end
theorem impl_tally_ofRank.info8 : (Try.prog.info? 5).map (fun i => (i.zero, i.size, i.bytes)) = some (some (.int .u8 0), 1, 1) := by kernel_rfl
def impl_tally_ofRank.f (_k : Nat) (t0 t1 t2 t3 rank : Int) : Option (ByteArray × Bool) := (impl_votesOn_2.g t0 t1 t2 t3 18 0 0 0 0).bind fun s => (impl_in.f rank 0 (wrap64 (s - 1))).bind fun t => (if t = true then impl_tally_ofRank.l0 200 t0 t1 t2 t3 [] 0 0 0 0 rank else some ((⟨#[]⟩ : ByteArray), false))
theorem impl_tally_ofRank.mono : ∀ a0 a1 a2 a3 a4 k, LeO (impl_tally_ofRank.f k a0 a1 a2 a3 a4) (impl_tally_ofRank.f (k + 1) a0 a1 a2 a3 a4) := fun _ _ _ _ _ _ => LeO.refl _
theorem impl_tally_ofRank.bn {n m : Nat} (h : n ≤ (201 - m) * 8 ^ 18) : n + 8 ^ 18 ≤ maxLen := by
  have h1 : (201 - m) * 8 ^ 18 ≤ 201 * 8 ^ 18 := Nat.mul_le_mul_right _ (by omega)
  have h2 : 201 * 8 ^ 18 + 8 ^ 18 ≤ maxLen := by decide
  omega
theorem impl_tally_ofRank.bs {n n' m : Nat} (hm : m + 1 ≤ 200) (h : n ≤ (201 - (m + 1)) * 8 ^ 18) (h' : n' < n + 8 ^ 18) : n' ≤ (201 - m) * 8 ^ 18 := by
  have h1 : (201 - m) * 8 ^ 18 = (201 - (m + 1)) * 8 ^ 18 + 8 ^ 18 := by rw [show 201 - m = (201 - (m + 1)) + 1 by omega, Nat.add_mul, Nat.one_mul]
  omega
theorem impl_tally_ofRank.bm {n m m' : Nat} (h : n ≤ (201 - m) * 8 ^ 18) (hm : m' ≤ m) : n ≤ (201 - m') * 8 ^ 18 := Nat.le_trans h (Nat.mul_le_mul_right _ (by omega))
/-- The numbers behind a step are such as fit. -/
theorem impl_step.wf {k : Nat} {g0 g1 g2 g3 a b c d i r1 r2 r3 r4 r5 : Int} (wa : (Lit.int .i64 a).wf = true) (wb : (Lit.int .i64 b).wf = true) (wc : (Lit.int .i64 c).wf = true) (wd : (Lit.int .i64 d).wf = true) (h : impl_step.f k g0 g1 g2 g3 a b c d i = some (r1, r2, r3, r4, r5)) : ((Lit.int .i64 r1).wf = true ∧ (Lit.int .i64 r2).wf = true ∧ (Lit.int .i64 r3).wf = true ∧ (Lit.int .i64 r4).wf = true) ∧ 0 ≤ i ∧ i < 4 := by
  unfold impl_step.f at h
  have go : ∀ {x y b0 b1 b2 b3 : Int}, impl_step.one (impl_votesOn_2.g g0 g1 g2 g3 k) x y b0 b1 b2 b3 = some (r1, r2, r3, r4, r5) → r1 = b0 ∧ r2 = b1 ∧ r3 = b2 ∧ r4 = b3 := fun h => (impl_step.one_cases h).1
  by_cases e0 : i = 0
  · rw [if_pos e0] at h; obtain ⟨rfl, rfl, rfl, rfl⟩ := go h; exact ⟨⟨wrap64_wf _, by assumption, by assumption, by assumption⟩, by omega, by omega⟩
  rw [if_neg e0] at h
  by_cases e1 : i = 1
  · rw [if_pos e1] at h; obtain ⟨rfl, rfl, rfl, rfl⟩ := go h; exact ⟨⟨by assumption, wrap64_wf _, by assumption, by assumption⟩, by omega, by omega⟩
  rw [if_neg e1] at h
  by_cases e2 : i = 2
  · rw [if_pos e2] at h; obtain ⟨rfl, rfl, rfl, rfl⟩ := go h; exact ⟨⟨by assumption, by assumption, wrap64_wf _, by assumption⟩, by omega, by omega⟩
  rw [if_neg e2] at h
  by_cases e3 : i = 3
  · rw [if_pos e3] at h; obtain ⟨rfl, rfl, rfl, rfl⟩ := go h; exact ⟨⟨by assumption, by assumption, by assumption, wrap64_wf _⟩, by omega, by omega⟩
  rw [if_neg e3] at h
  cases h
set_option maxHeartbeats 4000000 in
set_option maxRecDepth 100000 in
theorem impl_tally_ofRank.calls (k : Nat) (t0 t1 t2 t3 a1 : Int) (r1 : ByteArray) (r2 : Bool) (w : World) (h : impl_tally_ofRank.f k t0 t1 t2 t3 a1 = some (r1, r2)) :
    Calls Try.prog 43 #[.agg #[.int .i64 t0, .int .i64 t1, .int .i64 t2, .int .i64 t3], .int .i64 a1] w fun e w' => e = .returned (.tuple #[.string r1, .bool r2]) ∧ Below w.heap.size w w' := by
  have heg : ∀ (args : Array Value) (w : World), (callFunc 83 args).run Try.prog w = .ok (.enter 83 args) w := impl_votesOn_2.enters
  obtain ⟨s0, A0, h1⟩ := Option.bind_eq_some_iff.mp h
  obtain ⟨tt, A1, h2⟩ := Option.bind_eq_some_iff.mp h1
  have HS := Aside0.mk A0
  have HI := Aside0.mk A1
  clear h h1 A0 A1
  by_cases ct : tt = true
  · subst ct
    rw [if_pos rfl] at h2
    have H2 := Aside0.mk h2
    clear h2
    go_enter Try.func43, Try.ntmps43
    go_upto_region 5 with (first | ((with_reducible refine gate_dst (N := 2) rfl ?_); refine box_event ?hg (N := 2) ?hd (cs := #[.int .i64 t0, .int .i64 t1, .int .i64 t2, .int .i64 t3]) (t := 60) ?hr ?_; (case hd => rfl); (case hg => rfl); (case hr => first | (go_simp; done) | (go_simp; rfl)); intro gg hgg w1 hbox hb; have HBG := Aside0.mk hbox; have HB1 := Aside0.mk hb; have HGG := Aside0.mk (Nat.le_of_eq hgg.symm : w.heap.size ≤ gg); clear hgg hb hbox) | ((with_reducible refine gate_dst (N := 12) rfl ?_); refine zLoadBox4 (t := 60) (e := 3) rfl rfl Try.underlying60 (by kernel_rfl) rfl HBG.out ?_) | (go_at_call 63; refine (impl_votesOn.calls t0 t1 t2 t3 _).mono ?_; rintro e w2 ⟨bg, bk, bf, B, rfl, hE, l1, l2, l3, l4, hb⟩; have HE := Aside0.mk hE; have HLs := Aside0.mk (And.intro l1 (And.intro l2 (And.intro l3 l4))); have HB2 := Aside0.mk (below_step HB1.out hb); have HBG2 := Aside0.mk (blk_below HBG.out hb); have HGL := Aside0.mk (blk_lt HBG.out); clear hE l1 l2 l3 l4 hb) | (go_at_fn 83; refine (impl_votesOn_2.Env.call HE.out 18 (by decide) 0 0 0 0 s0 (by decide) (by decide) (by decide) (by decide) HS.out).mono ?_; rintro e w3 ⟨rfl, hg, n3, hn3, hE3⟩; have HG3 := Aside0.mk hg; have HN3 := Aside0.mk hn3; have HE3 := Aside0.mk hE3; clear hg hn3 hE3) | (go_at_call 32; refine (impl_in.calls a1 0 (wrap64 (s0 - 1)) true _ HI.out).mono ?_; rintro e w4 ⟨rfl, ⟨nd, rfl⟩⟩) | ((with_reducible refine gate_dst (N := 21) rfl ?_); refine Kd.R_lit (Kd.int .u8) _ 5 ?hg (N := 21) ?hd (xs := ([] : List Int)) (inner := []) (ok := fun _ => True) (okp := fun _ => True) ?hr ?hp (fun _ hk => hk) trivial (Below.refl _ _) (Nat.le_refl _) (by simp) ?_; (case hd => rfl); (case hg => rfl); (case hr => first | (go_simp; done) | (go_simp; rfl)); (case hp => exact (Reps.none _ _)); intro v5 w5 ho5 hb hg_ hnew_; have HR5 := Aside0.mk ho5; have HB5 := Aside0.mk hb; clear hg_ hnew_ ho5 hb) | ((with_reducible refine gate_dst (N := 8) rfl ?_); refine box_event ?hg (N := 8) ?hd (cs := #[.int .i64 0, .int .i64 0, .int .i64 0, .int .i64 0]) (t := 60) ?hr ?_; (case hd => rfl); (case hg => rfl); (case hr => first | (go_simp; done) | (go_simp; rfl)); intro gn hgn w6 hbox hb; have HBN := Aside0.mk hbox; have HGN := Aside0.mk (Nat.le_of_eq hgn.symm : w5.heap.size ≤ gn); have HB6 := Aside0.mk hb; clear hgn hb hbox) | ((with_reducible refine gate_store (t := 60) (p := 8) rfl ?_); refine zStoreBox4 (t := 60) (y0 := 0) (y1 := 0) (y2 := 0) (y3 := 0) rfl rfl rfl (by kernel_rfl) rfl rfl HBN.out ?_; intro w7 hs hg; have HBN7 := Aside0.mk hs; have HG7 := Aside0.mk hg; clear hs hg))
    have HE4 := Aside0.mk ((HE3.out.drewN nd).below HB5.out)
    have HNO := Aside0.mk (HE4.out.off HGN.out)
    have HE7 := Aside0.mk ((HE4.out.below HB6.out).grown HG7.out HNO.out)
    have HEL := Aside0.mk HE.out.lt
    have HGO := Aside0.mk (show gg ≠ bg ∧ gg ≠ bk ∧ gg ≠ bf ∧ gg ≠ B by have h1 := HGL.out; have h2 := HLs.out; omega)
    have HS3 := Aside0.mk (show w2.heap.size ≤ w3.heap.size ∧ w3.heap.size ≤ w5.heap.size from ⟨HG3.out.size, HB5.out.size⟩)
    have HGL2 := Aside0.mk (blk_lt HBG2.out)
    have HNG := Aside0.mk (show gn ≠ gg by have h1 := HGL2.out; have h2 := HS3.out; have h3 := HGN.out; omega)
    have HW5 := Aside0.mk (show w.heap.size ≤ w2.heap.size from HB2.out.size)
    have HWB := Aside0.mk (show w.heap.size ≤ bg ∧ w.heap.size ≤ bk ∧ w.heap.size ≤ bf ∧ w.heap.size ≤ B by have h1 := HB1.out.size; have h2 := HLs.out; omega)
    have HWN := Aside0.mk (show w.heap.size ≤ gn by have h1 := HW5.out; have h2 := HS3.out; have h3 := HGN.out; omega)
    have HBA := Aside0.mk (show Below w.heap.size w w3 from HB2.out.grown HG3.out HW5.out (fun j e => by injection e with e; subst e; exact HWB.out.2.2.2))
    have HBB := Aside0.mk (show Below w.heap.size w w7 from (((below_step (pw_below_drewN HBA.out nd) HB5.out) |> fun h => below_step h HB6.out).grown HG7.out (below_step (below_step (pw_below_drewN HBA.out nd) HB5.out) HB6.out).size (fun j e => by injection e with e; subst e; exact HWN.out)))
    have HBG3 := Aside0.mk (blk_grown HBG2.out HG3.out (fun e => HGO.out.2.2.2 (Option.some.inj e)))
    have HBG7 := Aside0.mk (blk_grown (blk_below (blk_below (blk_drewN HBG3.out nd) HB5.out) HB6.out) HG7.out (fun e => HNG.out (Option.some.inj e).symm))
    have HR6 := Aside0.mk (Kd.R_mono (ok' := (fun j => j ≠ bg ∧ j ≠ bk ∧ j ≠ bf ∧ j ≠ B ∧ j ≠ gg ∧ j ≠ gn)) (Kd.R_bound HR5.out) (fun j hj => by have h1 := HEL.out; have h2 := HS3.out; have h3 := HGL2.out; have h4 := HGN.out; have h5 : w3.heap.size ≤ j := hj.2.1; have h6 : j < w5.heap.size := hj.2.2.1; refine ⟨?_, ?_, ?_, ?_, ?_, ?_⟩ <;> omega))
    have HR7 := Aside0.mk (Kd.R_grown (Kd.R_below (Kd.R_lower HR6.out (show w.heap.size ≤ (w3.drewN nd).heap.size from HBA.out.size)) HB6.out) HG7.out (fun j hj e => hj.2.2.2.2.2 (Option.some.inj e)))
    have HN7 := Aside0.mk (show n3 ≤ (201 - 200) * 8 ^ 18 by have := HN3.out; omega)
    clear HB1 HBG HE HB2 HBG2 HGL HG3 HN3 HE3 HR5 HB5 HBN HGN HB6 HG7 HE4 HEL HS3 HGL2 HBA HBG3 HR6 HS HI HW5 HGG
    go_wp2_with (first | (fail))
    go_loopg [1, 7] 200 (fun kq v1 v7 w' => ∃ (out : List Int) (a b c d rank : Int) (m : Nat), v1 = .int .i64 rank ∧ Aside0 (impl_tally_ofRank.l0 kq t0 t1 t2 t3 out a b c d rank = some (r1, r2)) ∧ Aside0 (kq ≤ 200) ∧ Aside0 (Kd.R (Kd.int .u8) 5 w' w.heap.size (fun j => j ≠ bg ∧ j ≠ bk ∧ j ≠ bf ∧ j ≠ B ∧ j ≠ gg ∧ j ≠ gn) v7 out) ∧ Aside0 (impl_votesOn_2.Env w' bg bk bf B t0 t1 t2 t3 m) ∧ Aside0 (m ≤ (201 - kq) * 8 ^ 18) ∧ Aside0 (w'.heap[gg]? = some (.cells #[.int .i64 t0, .int .i64 t1, .int .i64 t2, .int .i64 t3] 60 (0, 0))) ∧ Aside0 (w'.heap[gn]? = some (.cells #[.int .i64 a, .int .i64 b, .int .i64 c, .int .i64 d] 60 (0, 0))) ∧ Aside0 ((Lit.int .i64 a).wf = true ∧ (Lit.int .i64 b).wf = true ∧ (Lit.int .i64 c).wf = true ∧ (Lit.int .i64 d).wf = true) ∧ Aside0 (Below w.heap.size w w'))
    case atStart => exact ⟨[], 0, 0, 0, 0, a1, n3, rfl, H2, ⟨Nat.le_refl _⟩, HR7, HE7, HN7, HBG7, HBN7, ⟨by decide, by decide, by decide, by decide⟩, HBB⟩
    case round =>
      clear H2 HR7 HE7 HN7 HBG7 HBN7 HBB
      obtain ⟨out, a, b, c, d, rank, m, rfl, HA, HK, HO, HE, HM, BG, BN, WF, HB⟩ := hrel
      cases gk with
      | zero => exact absurd HA.out (by simp [impl_tally_ofRank.l0])
      | succ k1 =>
        have H : (if a = t0 ∧ b = t1 ∧ c = t2 ∧ d = t3 then some (strOfNums out, true) else impl_tally_ofRank.l1 k1 t0 t1 t2 t3 out a b c d rank 0) = some (r1, r2) := HA.out
        clear HA
        by_cases qe : a = t0 ∧ b = t1 ∧ c = t2 ∧ d = t3
        · rw [if_pos qe] at H
          simp only [Option.some.injEq, Prod.mk.injEq] at H
          obtain ⟨rfl, rfl⟩ := H
          have qb := Aside0.mk (show (a == t0 && (b == t1 && (c == t2 && d == t3))) = true by simp [qe])
          clear qe
          have hcv := own_string (P := Try.prog) Try.underlying91 Try.underlying5 Try.underlying9 (Kd.own_of_R HO.out)
          go_wp2_with (first | ((with_reducible refine gate_dst (N := 23) rfl ?_); refine zLoadBox4 (t := 60) (e := 3) rfl rfl Try.underlying60 (by kernel_rfl) rfl BN.out ?_) | ((with_reducible refine gate_dst (N := 24) rfl ?_); refine zLoadBox4 (t := 60) (e := 3) rfl rfl Try.underlying60 (by kernel_rfl) rfl BG.out ?_) | ((with_reducible refine gate_dst (N := 25) rfl ?_); refine zNeqArr4 (t := 60) (e := 3) rfl rfl Try.underlying60 Try.underlying3 (by kernel_rfl) (by kernel_rfl) rfl rfl qb.out (r' := false) rfl ?_))
          go_ret2
          exact ⟨by first | rfl | (simp; done), HB.out⟩
        · rw [if_neg qe] at H
          have qb := Aside0.mk (show (a == t0 && (b == t1 && (c == t2 && d == t3))) = false by simpa using qe)
          clear qe
          have H' := Aside0.mk H
          clear H
          go_wp2_with (first | ((with_reducible refine gate_dst (N := 23) rfl ?_); refine zLoadBox4 (t := 60) (e := 3) rfl rfl Try.underlying60 (by kernel_rfl) rfl BN.out ?_) | ((with_reducible refine gate_dst (N := 24) rfl ?_); refine zLoadBox4 (t := 60) (e := 3) rfl rfl Try.underlying60 (by kernel_rfl) rfl BG.out ?_) | ((with_reducible refine gate_dst (N := 25) rfl ?_); refine zNeqArr4 (t := 60) (e := 3) rfl rfl Try.underlying60 Try.underlying3 (by kernel_rfl) (by kernel_rfl) rfl rfl qb.out (r' := true) rfl ?_))
          obtain ⟨vo, hvo⟩ : ∃ v, v = u7 := ⟨_, rfl⟩
          subst hvo
          go_loopg [1, 7, 26] k1 (fun kq v1 v7 v26 w' => ∃ (rk i : Int) (m : Nat), v1 = .int .i64 rk ∧ v7 = vo ∧ v26 = .int .i64 i ∧ Aside0 (impl_tally_ofRank.l1 kq t0 t1 t2 t3 out a b c d rk i = some (r1, r2)) ∧ Aside0 (kq ≤ k1) ∧ Aside0 (Kd.R (Kd.int .u8) 5 w' w.heap.size (fun j => j ≠ bg ∧ j ≠ bk ∧ j ≠ bf ∧ j ≠ B ∧ j ≠ gg ∧ j ≠ gn) vo out) ∧ Aside0 (impl_votesOn_2.Env w' bg bk bf B t0 t1 t2 t3 m) ∧ Aside0 (m ≤ (201 - kq) * 8 ^ 18) ∧ Aside0 (w'.heap[gg]? = some (.cells #[.int .i64 t0, .int .i64 t1, .int .i64 t2, .int .i64 t3] 60 (0, 0))) ∧ Aside0 (w'.heap[gn]? = some (.cells #[.int .i64 a, .int .i64 b, .int .i64 c, .int .i64 d] 60 (0, 0))) ∧ Aside0 (Below w.heap.size w w'))
          case atStart => exact ⟨rank, 0, m, rfl, rfl, rfl, H', ⟨Nat.le_refl _⟩, HO, HE, ⟨impl_tally_ofRank.bm HM.out (Nat.le_succ _)⟩, BG, BN, HB⟩
          case round =>
            clear H' HO HE HM BG BN HB qb
            obtain ⟨rk, i, m2, rfl, rfl, rfl, HA, HK2, HO, HE, HM, BG, BN, HB⟩ := hrel
            cases gk with
            | zero => exact absurd HA.out (by simp [impl_tally_ofRank.l1])
            | succ k2 =>
              have H : (if i < 4 then ((impl_step.f 18 t0 t1 t2 t3 a b c d i).bind fun s => (if rk < s.2.2.2.2 then (if out.length < 140737488355328 then impl_tally_ofRank.l0 k2 t0 t1 t2 t3 (out ++ [(bt (⟨#[97, 98, 99, 100]⟩ : ByteArray) i)]) s.1 s.2.1 s.2.2.1 s.2.2.2.1 rk else none) else impl_tally_ofRank.l1 k2 t0 t1 t2 t3 out a b c d (wrap64 (rk - s.2.2.2.2)) (wrap64 (i + 1)))) else impl_tally_ofRank.l0 k2 t0 t1 t2 t3 out a b c d rk) = some (r1, r2) := HA.out
              clear HA
              by_cases c6 : i < 4
              · rw [if_pos c6] at H
                obtain ⟨⟨b0, b1, b2, b3, qq⟩, A7, H⟩ := Option.bind_eq_some_iff.mp H
                have WS := Aside0.mk (impl_step.wf WF.out.1 WF.out.2.1 WF.out.2.2.1 WF.out.2.2.2 A7)
                have HA7 := Aside0.mk A7
                clear A7
                dsimp only at H
                have c6b0 : decide (i < 4) = true := decide_eq_true c6
                clear c6
                have HH := Aside0.mk H
                clear H
                go_upto_region 10 with (first | ((with_reducible refine gate_dst (N := 31) rfl ?_); refine zLoadBox4 (t := 60) (e := 3) rfl rfl Try.underlying60 (by kernel_rfl) rfl BG.out ?_) | ((with_reducible refine gate_dst (N := 32) rfl ?_); refine zLoadBox4 (t := 60) (e := 3) rfl rfl Try.underlying60 (by kernel_rfl) rfl BN.out ?_) | (go_at_call 64; refine (impl_step.calls (bg := bg) (bk := bk) (bf := bf) (B := B) (n := m2) t0 t1 t2 t3 a b c d i b0 b1 b2 b3 qq 18 _ HE.out (impl_tally_ofRank.bn HM.out) WF.out.1 WF.out.2.1 WF.out.2.2.1 WF.out.2.2.2 HA7.out).mono ?_; rintro e w9 ⟨rfl, hg, m9, hm9, hE9⟩; have HG9 := Aside0.mk hg; have HM9 := Aside0.mk hm9; have HE9 := Aside0.mk hE9; clear hg hm9 hE9) | ((with_reducible refine gate_dst (N := 10) rfl ?_); refine box_event ?hg (N := 10) ?hd (cs := #[.int .i64 0, .int .i64 0, .int .i64 0, .int .i64 0]) (t := 60) ?hr ?_; (case hd => rfl); (case hg => rfl); (case hr => first | (go_simp; done) | (go_simp; rfl)); intro gx hgx w10 hbox hb; have HBX := Aside0.mk hbox; have HGX := Aside0.mk (Nat.le_of_eq hgx.symm : w9.heap.size ≤ gx); have HB10 := Aside0.mk hb; clear hgx hb hbox) | ((with_reducible refine gate_store (t := 60) (p := 10) rfl ?_); refine zStoreBox4 (t := 60) (y0 := b0) (y1 := b1) (y2 := b2) (y3 := b3) rfl rfl rfl (by kernel_rfl) rfl rfl HBX.out ?_; intro w11 hs hg; have HBX11 := Aside0.mk hs; have HG11 := Aside0.mk hg; clear hs hg))
                have HB11 := Aside0.mk (HB10.out.grown HG11.out HB10.out.size (fun j e => by injection e with e; subst e; exact HGX.out))
                have HOX := Aside0.mk (Kd.R_bound (Kd.R_grown HO.out HG9.out (fun j hj e => hj.2.2.2.1 (Option.some.inj e))))
                have HNX := Aside0.mk (show ∀ j, some j = (u7 : Value).ownBlock → j < w9.heap.size from fun j hj => (HOX.out.1 j hj.symm).2.2.1)
                have HO11 := Aside0.mk (Kd.R_below (Kd.R_grown HO.out HG9.out (fun j hj e => hj.2.2.2.1 (Option.some.inj e))) HB11.out)
                have HE11 := Aside0.mk (HE9.out.below HB11.out)
                have BG11 := Aside0.mk (blk_below (blk_grown BG.out HG9.out (fun e => HGO.out.2.2.2 (Option.some.inj e))) HB11.out)
                have BN11 := Aside0.mk (blk_below (blk_grown BN.out HG9.out (fun e => HNO.out.2.2.2 (Option.some.inj e))) HB11.out)
                have HBW := Aside0.mk (show Below w.heap.size w w11 from below_step (HB.out.grown HG9.out HB.out.size (fun j e => by injection e with e; subst e; exact HWB.out.2.2.2)) HB11.out)
                have HM11 := Aside0.mk (impl_tally_ofRank.bs (by have h1 := HK.out; have h2 := HK2.out; omega) HM.out HM9.out)
                have HGNL := Aside0.mk (show gn < w9.heap.size from Nat.lt_of_lt_of_le (blk_lt BN.out) HG9.out.size)
                clear HO HE BG BN HB HM HG9 HM9 HE9 HBX HB10 HG11 HB11 HOX
                have HH2 := HH.out
                clear HH
                by_cases c7 : rk < qq
                · rw [if_pos c7] at HH2
                  have c7b0 : decide (rk < qq) = true := decide_eq_true c7
                  clear c7
                  by_cases c8 : out.length < 140737488355328
                  · rw [if_pos c8] at HH2
                    have LM := Aside0.mk c8
                    have HH3 := Aside0.mk HH2
                    clear c8 HH2
                    go_upto_region 11 with (first | (fail))
                    have x0 : w11.cell? ⟨gx, 0, none⟩ = some (.int .i64 b0) := (blk_cell HBX11.out 0).trans rfl
                    have x1 : w11.cell? ⟨gx, 1, none⟩ = some (.int .i64 b1) := (blk_cell HBX11.out 1).trans rfl
                    have x2 : w11.cell? ⟨gx, 2, none⟩ = some (.int .i64 b2) := (blk_cell HBX11.out 2).trans rfl
                    have x3 : w11.cell? ⟨gx, 3, none⟩ = some (.int .i64 b3) := (blk_cell HBX11.out 3).trans rfl
                    have p11 : (0 ≤ i) = True := eq_true WS.out.2.1
                    have q11 : (i < 4) = True := eq_true WS.out.2.2
                    have hx11 := bt_at (⟨#[97, 98, 99, 100]⟩ : ByteArray) i
                    have HNN := Aside0.mk (show gx ≠ gn from fun e => by have h1 := HGX.out; have h2 := HGNL.out; omega)
                    have HFR := Aside0.mk (show ∀ j, w11.heap.size ≤ j → j ≠ bg ∧ j ≠ bk ∧ j ≠ bf ∧ j ≠ B ∧ j ≠ gg ∧ j ≠ gn from fun j hj => by have h1 := HE11.out.lt; have h2 := blk_lt BG11.out; have h3 := blk_lt BN11.out; omega)
                    go_region_held3 (fun w' => w'.cell? ⟨gx, 0, none⟩ = some (.int .i64 b0) ∧ w'.cell? ⟨gx, 1, none⟩ = some (.int .i64 b1) ∧ w'.cell? ⟨gx, 2, none⟩ = some (.int .i64 b2) ∧ w'.cell? ⟨gx, 3, none⟩ = some (.int .i64 b3)) (first | (with_reducible exact ⟨x0, x1, x2, x3⟩) | (with_reducible exact ⟨cell_alloc_old x0 _, cell_alloc_old x1 _, cell_alloc_old x2 _, cell_alloc_old x3 _⟩) | (with_reducible exact ⟨x0c, x1c, x2c, x3c⟩) | (with_reducible exact ⟨cell_set4 HNN.out x0c, cell_set4 HNN.out x1c, cell_set4 HNN.out x2c, cell_set4 HNN.out x3c⟩) | exact ⟨x0, x1, x2, x3⟩ | exact ⟨cell_alloc_old x0 _, cell_alloc_old x1 _, cell_alloc_old x2 _, cell_alloc_old x3 _⟩ | fail) (first | (refine Kd.R_append_step (Kd.int .u8) (w0 := w) (W := w11.drew) w.heap.size (by rfl) (.tmp 40) (.tmp 43) 91 5 (.int .u8 0) 1 rfl Try.underlying91 impl_tally_ofRank.info8 rfl (by decide) (by omega) u7 out (bt (⟨#[97, 98, 99, 100]⟩ : ByteArray) i) [.int .u8 (bt (⟨#[97, 98, 99, 100]⟩ : ByteArray) i)] (fun j => j ≠ bg ∧ j ≠ bk ∧ j ≠ bf ∧ j ≠ B ∧ j ≠ gg ∧ j ≠ gn) (fun _ => False) rfl rfl ?aP (fun _ hk => hk.elim) ?aF ?aO ?aB ?aS ?aL ?_; (case aP => exact rfl); (case aB => exact below_drew1 HBW.out); (case aF => exact (fun j hj => HFR.out j hj)); (case aO => exact Kd.R_drew HO11.out); (case aS => exact HBW.out.size); (case aL => have := LM.out; omega); intro v12 w12 ho hb hg hat; have HO12 := Aside0.mk ho; have HB12 := Aside0.mk hb; have HG12 := Aside0.mk hg; have x0c : w12.cell? ⟨gx, 0, none⟩ = some (.int .i64 b0) := hg.cell (by exact x0) (fun e => by have h1 := HNX.out _ e; have h2 := HGX.out; exact absurd h2 (by dsimp only at h1 ⊢; omega)); have x1c : w12.cell? ⟨gx, 1, none⟩ = some (.int .i64 b1) := hg.cell (by exact x1) (fun e => by have h1 := HNX.out _ e; have h2 := HGX.out; exact absurd h2 (by dsimp only at h1 ⊢; omega)); have x2c : w12.cell? ⟨gx, 2, none⟩ = some (.int .i64 b2) := hg.cell (by exact x2) (fun e => by have h1 := HNX.out _ e; have h2 := HGX.out; exact absurd h2 (by dsimp only at h1 ⊢; omega)); have x3c : w12.cell? ⟨gx, 3, none⟩ = some (.int .i64 b3) := hg.cell (by exact x3) (fun e => by have h1 := HNX.out _ e; have h2 := HGX.out; exact absurd h2 (by dsimp only at h1 ⊢; omega)); have BNc := Aside0.mk (blk_grown (blk_drew BN11.out) hg (fun e => (HO11.out.1 _ e.symm).2.2.2.2.2 rfl)); have y0c : w12.cell? ⟨gn, 0, none⟩ = some (.int .i64 a) := (blk_cell BNc.out 0).trans rfl; have f0c := blk_frozen BNc.out 0; have y1c : w12.cell? ⟨gn, 1, none⟩ = some (.int .i64 b) := (blk_cell BNc.out 1).trans rfl; have f1c := blk_frozen BNc.out 1; have y2c : w12.cell? ⟨gn, 2, none⟩ = some (.int .i64 c) := (blk_cell BNc.out 2).trans rfl; have f2c := blk_frozen BNc.out 2; have y3c : w12.cell? ⟨gn, 3, none⟩ = some (.int .i64 d) := (blk_cell BNc.out 3).trans rfl; have f3c := blk_frozen BNc.out 3; clear ho hb hg hat))
                    have HE12 := HE11.out.drew.grownO HG12.out (fun j hj => by have h1 := HO11.out.1 j hj; exact ⟨h1.1, h1.2.1, h1.2.2.1, h1.2.2.2.1⟩)
                    have BG12 := blk_grown (blk_drew BG11.out) HG12.out (fun e => (HO11.out.1 _ e.symm).2.2.2.2.1 rfl)
                    have hgg := HNG.out.symm
                    have hno := HNO.out
                    obtain ⟨wz, hwz⟩ : ∃ wz : World, wz = ((((w12.setCell ⟨gn, 0, none⟩ (.int .i64 b0)).setCell ⟨gn, 1, none⟩ (.int .i64 b1)).setCell ⟨gn, 2, none⟩ (.int .i64 b2)).setCell ⟨gn, 3, none⟩ (.int .i64 b3)) := ⟨_, rfl⟩
                    have FE := Aside0.mk (show impl_votesOn_2.Env wz bg bk bf B t0 t1 t2 t3 m9 from hwz ▸ (((HE12.set hno _).set hno _).set hno _).set hno _)
                    have FG := Aside0.mk (show wz.heap[gg]? = some (.cells #[.int .i64 t0, .int .i64 t1, .int .i64 t2, .int .i64 t3] 60 (0, 0)) from hwz ▸ blk_far (blk_far (blk_far (blk_far BG12 hgg _) hgg _) hgg _) hgg _)
                    have FN := Aside0.mk (show wz.heap[gn]? = some (.cells #[.int .i64 b0, .int .i64 b1, .int .i64 b2, .int .i64 b3] 60 (0, 0)) from hwz ▸ blk_set (blk_set (blk_set (blk_set BNc.out 0 _) 1 _) 2 _) 3 _)
                    have FO := Aside0.mk (show Kd.R (Kd.int .u8) 5 wz w.heap.size (fun j => j ≠ bg ∧ j ≠ bk ∧ j ≠ bf ∧ j ≠ B ∧ j ≠ gg ∧ j ≠ gn) v12 (out ++ [(bt (⟨#[97, 98, 99, 100]⟩ : ByteArray) i)]) from hwz ▸ Kd.R_far (Kd.R_far (Kd.R_far (Kd.R_far HO12.out (fun j hj => hj.2.2.2.2.2) _) (fun j hj => hj.2.2.2.2.2) _) (fun j hj => hj.2.2.2.2.2) _) (fun j hj => hj.2.2.2.2.2) _)
                    have FB := Aside0.mk (show Below w.heap.size w wz from hwz ▸ below_set (below_set (below_set (below_set HB12.out HWN.out) HWN.out) HWN.out) HWN.out)
                    rw [← hwz]
                    clear HE12 BG12 hgg hno hwz HE11 BG11 BN11 HO11 HO12 HB12 HG12 BNc HBW HBX11 HNX HGX HNN HFR
                    clear x0 x0c y0c f0c x1 x1c y1c f1c x2 x2c y2c f2c x3 x3c y3c f3c
                    go_wp2
                    go_roundg k2
                    case measure => have := HK2.out; omega
                    case rel => exact ⟨out ++ [(bt (⟨#[97, 98, 99, 100]⟩ : ByteArray) i)], b0, b1, b2, b3, rk, m9, rfl, HH3, ⟨by have h1 := HK.out; have h2 := HK2.out; omega⟩, FO, FE, HM11, FG, FN, ⟨WS.out.1⟩, FB⟩
                  · rw [if_neg c8] at HH2
                    cases HH2
                · rw [if_neg c7] at HH2
                  have c7b0 : decide (rk < qq) = false := decide_eq_false c7
                  have HH3 := Aside0.mk HH2
                  clear c7 HH2
                  go_wp2
                  go_roundg k2
                  case measure => omega
                  case rel => exact ⟨wrap64 (rk - qq), wrap64 (i + 1), m9, rfl, rfl, rfl, HH3, ⟨by have := HK2.out; omega⟩, HO11, HE11, HM11, BG11, BN11, HBW⟩
              · rw [if_neg c6] at H
                have c6b0 : decide (i < 4) = false := decide_eq_false c6
                have HH3 := Aside0.mk H
                clear c6 H
                go_wp2
                go_roundg k2
                case measure => have := HK2.out; omega
                case rel => exact ⟨out, a, b, c, d, rk, m2, rfl, HH3, ⟨by have h1 := HK.out; have h2 := HK2.out; omega⟩, HO, HE, ⟨impl_tally_ofRank.bm HM.out (Nat.le_succ _)⟩, BG, BN, WF, HB⟩
  · replace ct := Bool.eq_false_iff.mpr ct
    subst ct
    rw [if_neg (show ¬ (false = true) by decide)] at h2
    simp only [Option.some.injEq, Prod.mk.injEq] at h2
    obtain ⟨rfl, rfl⟩ := h2
    go_enter Try.func43, Try.ntmps43
    go_wp2_with (first | ((with_reducible refine gate_dst (N := 2) rfl ?_); refine box_event ?hg (N := 2) ?hd (cs := #[.int .i64 t0, .int .i64 t1, .int .i64 t2, .int .i64 t3]) (t := 60) ?hr ?_; (case hd => rfl); (case hg => rfl); (case hr => first | (go_simp; done) | (go_simp; rfl)); intro gg hgg w1 hbox hb; have HBG := Aside0.mk hbox; have HB1 := Aside0.mk hb; have HGG := Aside0.mk (Nat.le_of_eq hgg.symm : w.heap.size ≤ gg); clear hgg hb hbox) | ((with_reducible refine gate_dst (N := 12) rfl ?_); refine zLoadBox4 (t := 60) (e := 3) rfl rfl Try.underlying60 (by kernel_rfl) rfl HBG.out ?_) | (go_at_call 63; refine (impl_votesOn.calls t0 t1 t2 t3 _).mono ?_; rintro e w2 ⟨bg, bk, bf, B, rfl, hE, l1, l2, l3, l4, hb⟩; have HE := Aside0.mk hE; have HLs := Aside0.mk (And.intro l1 (And.intro l2 (And.intro l3 l4))); have HB2 := Aside0.mk (below_step HB1.out hb); have HBG2 := Aside0.mk (blk_below HBG.out hb); have HGL := Aside0.mk (blk_lt HBG.out); clear hE l1 l2 l3 l4 hb) | (go_at_fn 83; refine (impl_votesOn_2.Env.call HE.out 18 (by decide) 0 0 0 0 s0 (by decide) (by decide) (by decide) (by decide) HS.out).mono ?_; rintro e w3 ⟨rfl, hg, n3, hn3, hE3⟩; have HG3 := Aside0.mk hg; have HN3 := Aside0.mk hn3; have HE3 := Aside0.mk hE3; clear hg hn3 hE3) | (go_at_call 32; refine (impl_in.calls a1 0 (wrap64 (s0 - 1)) false _ HI.out).mono ?_; rintro e w4 ⟨rfl, ⟨nd, rfl⟩⟩))
    go_ret2
    exact ⟨by first | rfl | (simp; done), pw_below_drewN (HB2.out.grown HG3.out HB2.out.size (fun j e => by injection e with e; subst e; have h1 := HB1.out.size; have h2 := HLs.out; omega)) _⟩

/-! ### impl_factorial: function 65 -/
def impl_factorial.l0 : Nat → Int → Int → Int → Option (Int)
  | 0, _, _, _ => none
  | k + 1, x0, x3, x4 => if x4 ≤ x0 then (impl_factorial.l0 k x0 (wrap64 (x3 * x4)) (wrap64 (x4 + 1))) else (some x3)
def impl_factorial.f (k : Nat) (a0 : Int) : Option (Int) := impl_factorial.l0 k a0 1 2
theorem impl_factorial.mono_l : ∀ k, (∀ y0 y1 y2, LeO (impl_factorial.l0 k y0 y1 y2) (impl_factorial.l0 (k + 1) y0 y1 y2))
  | 0 => fun _ _ _ r h => by simp [impl_factorial.l0] at h
  | k + 1 => by
    have ih0 := impl_factorial.mono_l k
    · intro y0 y1 y2
      unfold impl_factorial.l0
      repeat' first
      | (with_reducible exact ih0 _ _ _)
      | (with_reducible exact LeO.refl _)
      | (with_reducible exact LeO.none _)
      | (with_reducible refine LeO.ite ?_ ?_)
      | (with_reducible refine LeO.bind ?_ (fun _ => ?_))
      | exact ih0 _ _ _
      | exact LeO.none _
      | refine LeO.ite ?_ ?_
      | refine LeO.bind ?_ (fun _ => ?_)
theorem impl_factorial.mono : ∀ a0 k, LeO (impl_factorial.f k a0) (impl_factorial.f (k + 1) a0) := by
  intro a0 k
  have ih0 := impl_factorial.mono_l k
  unfold impl_factorial.f
  repeat' first
      | (with_reducible exact ih0 _ _ _)
      | (with_reducible exact LeO.refl _)
      | (with_reducible exact LeO.none _)
      | (with_reducible refine LeO.ite ?_ ?_)
      | (with_reducible refine LeO.bind ?_ (fun _ => ?_))
      | exact ih0 _ _ _
      | exact LeO.none _
      | refine LeO.ite ?_ ?_
      | refine LeO.bind ?_ (fun _ => ?_)
set_option maxHeartbeats 8000000 in
set_option maxRecDepth 100000 in
theorem impl_factorial.calls (k : Nat) (a0 : Int) (r : Int) (w : World) (h : impl_factorial.f k a0 = some r) :
    Calls Try.prog 65 #[.int .i64 a0] w fun e w' => e = .returned (.int .i64 r) ∧ Drawn0 w w' := by
  have H : (impl_factorial.l0 k a0 1 2) = some r := h
  clear h
  have H' := Aside0.mk H
  clear H
  go_enter Try.func65, Try.ntmps65
  go_wp2
  go_loopg [3, 4] k (fun kq v3 v4 w' => ∃ (x3_1 : Int) (x4_1 : Int), v3 = .int .i64 x3_1 ∧ v4 = .int .i64 x4_1 ∧ Aside0 (impl_factorial.l0 kq a0 x3_1 x4_1 = some r) ∧ Aside0 (kq ≤ k) ∧ Drawn0 w w')
  case atStart => exact ⟨(1), (2), (by first | rfl | (simp; done) | (simp [*]; done)), (by first | rfl | (simp; done) | (simp [*]; done)), H', ⟨Nat.le_refl _⟩, by repeat (first | exact Drawn0.refl _ | apply Drawn0.step)⟩
  case round =>
    clear H'
    obtain ⟨x3_1, x4_1, rfl, rfl, HA, HK1, ⟨m1, rfl⟩⟩ := hrel
    cases gk with
    | zero => exact absurd HA.out (by simp [impl_factorial.l0])
    | succ k1 =>
      have H := HA.out
      clear HA
      simp only [impl_factorial.l0] at H
      by_cases c2 : x4_1 ≤ a0
      · rw [if_pos c2] at H
        have c2b0 : decide (x4_1 ≤ a0) = true := decide_eq_true c2
        clear c2
        have H' := Aside0.mk H
        clear H
        go_wp2
        go_roundg k1
        case measure => have := HK1.out; omega
        case rel => exact ⟨(wrap64 (x3_1 * x4_1)), (wrap64 (x4_1 + 1)), (by first | rfl | (simp; done) | (simp [*]; done)), (by first | rfl | (simp; done) | (simp [*]; done)), H', ⟨by have := HK1.out; omega⟩, by repeat (first | exact Drawn0.refl _ | apply Drawn0.step)⟩
      · rw [if_neg c2] at H
        have c2b0 : decide (x4_1 ≤ a0) = false := decide_eq_false c2
        clear c2
        obtain rfl := Option.some.inj H
        go_wp2
        go_ret
        exact ⟨by first | rfl | (simp; done) | (simp [*]; done), by repeat (first | exact Drawn0.refl _ | apply Drawn0.step)⟩

/-! ### impl_tally_hooks: function 66 -/
mutual
def impl_tally_hooks.l0 : Nat → List Int → List (List Int) → List Int → Int → Option ((List (List Int)))
  | 0, _, _, _, _ => none
  | k + 1, x1, x3, x12, x13 => if x13 < 4 then (if 0 ≤ x13 then (if x13 < (x12.length : Int) then (impl_tally_hooks.l1 k x1 x3 x13 (rd x12 x13) (([] : List Int)) x12 x13 (rd x12 x13) 0) else (none)) else (none)) else (some x3)
def impl_tally_hooks.l1 : Nat → List Int → List (List Int) → Int → Int → List Int → List Int → Int → Int → Int → Option ((List (List Int)))
  | 0, _, _, _, _, _, _, _, _, _ => none
  | k + 1, x1, x3, x4, x5, x6, x12, x13, x18, x19 => if x19 < x18 then (if 0 ≤ (wrap64 (x4 + 1)) then (if (wrap64 (x4 + 1)) ≤ (x1.length : Int) then (impl_tally_hooks.l2 k x1 x3 x4 x5 x6 x19 (wrap64 (x5 - x19)) x12 x13 x18 x19 (x1.drop ((wrap64 (x4 + 1)) : Int).toNat) ((x1.drop ((wrap64 (x4 + 1)) : Int).toNat).length : Int) 0) else (none)) else (none)) else (if x3.length < 5864062014805 then (impl_tally_hooks.l0 k x1 (x3 ++ [x6]) x12 (wrap64 (x13 + 1))) else (none))
def impl_tally_hooks.l2 : Nat → List Int → List (List Int) → Int → Int → List Int → Int → Int → List Int → Int → Int → Int → List Int → Int → Int → Option ((List (List Int)))
  | 0, _, _, _, _, _, _, _, _, _, _, _, _, _, _ => none
  | k + 1, x1, x3, x4, x5, x6, x7, x8, x12, x13, x18, x19, x27, x28, x29 => if x29 < x28 then (if 0 ≤ x29 then (if x29 < (x27.length : Int) then (if (rd x27 x29) > x7 then (impl_tally_hooks.l2 k x1 x3 x4 x5 x6 x7 (wrap64 (x8 + 1)) x12 x13 x18 x19 x27 x28 (wrap64 (x29 + 1))) else (impl_tally_hooks.l2 k x1 x3 x4 x5 x6 x7 x8 x12 x13 x18 x19 x27 x28 (wrap64 (x29 + 1)))) else (none)) else (none)) else (if x6.length < 17592186044416 then (impl_tally_hooks.l1 k x1 x3 x4 x5 (x6 ++ [x8]) x12 x13 x18 (wrap64 (x19 + 1))) else (none))
end
def impl_tally_hooks.fl (k : Nat) (l0 : List Int) : Option ((List (List Int))) := impl_tally_hooks.l0 k l0 (([] : List (List Int))) l0 0
theorem impl_tally_hooks.mono_l : ∀ k, (∀ y0 y1 y2 y3, LeO (impl_tally_hooks.l0 k y0 y1 y2 y3) (impl_tally_hooks.l0 (k + 1) y0 y1 y2 y3)) ∧ (∀ y0 y1 y2 y3 y4 y5 y6 y7 y8, LeO (impl_tally_hooks.l1 k y0 y1 y2 y3 y4 y5 y6 y7 y8) (impl_tally_hooks.l1 (k + 1) y0 y1 y2 y3 y4 y5 y6 y7 y8)) ∧ (∀ y0 y1 y2 y3 y4 y5 y6 y7 y8 y9 y10 y11 y12 y13, LeO (impl_tally_hooks.l2 k y0 y1 y2 y3 y4 y5 y6 y7 y8 y9 y10 y11 y12 y13) (impl_tally_hooks.l2 (k + 1) y0 y1 y2 y3 y4 y5 y6 y7 y8 y9 y10 y11 y12 y13))
  | 0 => ⟨fun _ _ _ _ r h => by simp [impl_tally_hooks.l0] at h, fun _ _ _ _ _ _ _ _ _ r h => by simp [impl_tally_hooks.l1] at h, fun _ _ _ _ _ _ _ _ _ _ _ _ _ _ r h => by simp [impl_tally_hooks.l2] at h⟩
  | k + 1 => by
    obtain ⟨ih0, ih1, ih2⟩ := impl_tally_hooks.mono_l k
    refine ⟨?_, ?_, ?_⟩
    · intro y0 y1 y2 y3
      unfold impl_tally_hooks.l0
      repeat' first
      | (with_reducible exact ih0 _ _ _ _)
      | (with_reducible exact ih1 _ _ _ _ _ _ _ _ _)
      | (with_reducible exact ih2 _ _ _ _ _ _ _ _ _ _ _ _ _ _)
      | (with_reducible exact LeO.refl _)
      | (with_reducible exact LeO.none _)
      | (with_reducible refine LeO.ite ?_ ?_)
      | (with_reducible refine LeO.bind ?_ (fun _ => ?_))
      | exact ih0 _ _ _ _
      | exact ih1 _ _ _ _ _ _ _ _ _
      | exact ih2 _ _ _ _ _ _ _ _ _ _ _ _ _ _
      | exact LeO.none _
      | refine LeO.ite ?_ ?_
      | refine LeO.bind ?_ (fun _ => ?_)
    · intro y0 y1 y2 y3 y4 y5 y6 y7 y8
      unfold impl_tally_hooks.l1
      repeat' first
      | (with_reducible exact ih0 _ _ _ _)
      | (with_reducible exact ih1 _ _ _ _ _ _ _ _ _)
      | (with_reducible exact ih2 _ _ _ _ _ _ _ _ _ _ _ _ _ _)
      | (with_reducible exact LeO.refl _)
      | (with_reducible exact LeO.none _)
      | (with_reducible refine LeO.ite ?_ ?_)
      | (with_reducible refine LeO.bind ?_ (fun _ => ?_))
      | exact ih0 _ _ _ _
      | exact ih1 _ _ _ _ _ _ _ _ _
      | exact ih2 _ _ _ _ _ _ _ _ _ _ _ _ _ _
      | exact LeO.none _
      | refine LeO.ite ?_ ?_
      | refine LeO.bind ?_ (fun _ => ?_)
    · intro y0 y1 y2 y3 y4 y5 y6 y7 y8 y9 y10 y11 y12 y13
      unfold impl_tally_hooks.l2
      repeat' first
      | (with_reducible exact ih0 _ _ _ _)
      | (with_reducible exact ih1 _ _ _ _ _ _ _ _ _)
      | (with_reducible exact ih2 _ _ _ _ _ _ _ _ _ _ _ _ _ _)
      | (with_reducible exact LeO.refl _)
      | (with_reducible exact LeO.none _)
      | (with_reducible refine LeO.ite ?_ ?_)
      | (with_reducible refine LeO.bind ?_ (fun _ => ?_))
      | exact ih0 _ _ _ _
      | exact ih1 _ _ _ _ _ _ _ _ _
      | exact ih2 _ _ _ _ _ _ _ _ _ _ _ _ _ _
      | exact LeO.none _
      | refine LeO.ite ?_ ?_
      | refine LeO.bind ?_ (fun _ => ?_)
theorem impl_tally_hooks.mono_fl : ∀ a0 k, LeO (impl_tally_hooks.fl k a0) (impl_tally_hooks.fl (k + 1) a0) := by
  intro a0 k
  obtain ⟨ih0, ih1, ih2⟩ := impl_tally_hooks.mono_l k
  unfold impl_tally_hooks.fl
  repeat' first
      | (with_reducible exact ih0 _ _ _ _)
      | (with_reducible exact ih1 _ _ _ _ _ _ _ _ _)
      | (with_reducible exact ih2 _ _ _ _ _ _ _ _ _ _ _ _ _ _)
      | (with_reducible exact LeO.refl _)
      | (with_reducible exact LeO.none _)
      | (with_reducible refine LeO.ite ?_ ?_)
      | (with_reducible refine LeO.bind ?_ (fun _ => ?_))
      | exact ih0 _ _ _ _
      | exact ih1 _ _ _ _ _ _ _ _ _
      | exact ih2 _ _ _ _ _ _ _ _ _ _ _ _ _ _
      | exact LeO.none _
      | refine LeO.ite ?_ ?_
      | refine LeO.bind ?_ (fun _ => ?_)
def impl_tally_hooks.f (k : Nat) (a b c d : Int) : Option (List (List Int)) := impl_tally_hooks.fl k [a, b, c, d]
theorem impl_tally_hooks.mono : ∀ a b c d k, LeO (impl_tally_hooks.f k a b c d) (impl_tally_hooks.f (k + 1) a b c d) := fun _ _ _ _ k => impl_tally_hooks.mono_fl _ k
set_option maxHeartbeats 8000000 in
set_option maxRecDepth 100000 in
theorem impl_tally_hooks.calls (k : Nat) (a0_0 a0_1 a0_2 a0_3 : Int) (r : List (List Int)) (w : World) (h : impl_tally_hooks.f k a0_0 a0_1 a0_2 a0_3 = some r) :
    Calls Try.prog 66 #[.agg #[.int .i64 a0_0, .int .i64 a0_1, .int .i64 a0_2, .int .i64 a0_3]] w fun e w' => ∃ v0_ : Value, e = .returned (v0_) ∧ Kd.S (Kd.slice 3 (Kd.int .i64)) 22 w' w.heap.size (fun _ => True) v0_ r ∧ Below w.heap.size w w' := by
  have hfin : Calls Try.prog 66 #[.agg #[.int .i64 a0_0, .int .i64 a0_1, .int .i64 a0_2, .int .i64 a0_3]] w fun e w' => ∃ w3 : World, Below w.heap.size w w3 ∧ ∃ v0_ : Value, e = .returned (v0_) ∧ Kd.S (Kd.slice 3 (Kd.int .i64)) 22 w' w3.heap.size (fun _ => True) v0_ r ∧ Below w3.heap.size w3 w' := by
    obtain ⟨l0, hl0⟩ : ∃ l : List Int, l = [a0_0, a0_1, a0_2, a0_3] := ⟨_, rfl⟩
    have HL0 := Aside0.mk hl0
    have HLL := Aside0.mk (show l0.length = 4 by rw [hl0]; rfl)
    have HCS := Aside0.mk (show (#[.int .i64 a0_0, .int .i64 a0_1, .int .i64 a0_2, .int .i64 a0_3] : Array Value) = (l0.map (Value.int .i64)).toArray by rw [hl0]; rfl)
    have hu45 := Try.underlying60
    have HB := Aside0.mk (Below.refl w.heap.size w)
    have H : (impl_tally_hooks.l0 k l0 (([] : List (List Int))) l0 0) = some r := by rw [hl0]; exact h
    clear h hl0
    obtain ⟨y139, hy139⟩ : ∃ y_ : List (List Int), y_ = (([] : List (List Int))) := ⟨_, rfl⟩
    replace H : (impl_tally_hooks.l0 k l0 y139 l0 0) = some r := by first | (rw [hy139]; with_reducible exact H) | (have H2_ := (Option.bind_some _ _).symm.trans H; rw [hy139]; with_reducible exact H2_) | (have H2_ := (Option.bind_some _ _).symm.trans H; with_reducible exact H2_) | with_reducible exact H | (rw [hy139]; exact H) | exact H
    have Ny139 := Aside0.mk hy139
    clear hy139
    have H' := Aside0.mk H
    clear H
    go_enter Try.func66, Try.ntmps66
    go_wp2_with (first | ((with_reducible refine gate_dst (N := 1) rfl ?_); refine box_event ?hg (N := 1) ?hd (cs := #[.int .i64 a0_0, .int .i64 a0_1, .int .i64 a0_2, .int .i64 a0_3]) (t := 60) ?hr ?_; (case hd => rfl); (case hg => rfl); (case hr => first | (go_simp; done) | (go_simp; rfl)); intro gb116 hg w hbox hb; have HB3 := Aside0.mk (below_step HB.out hb); have HBX := Aside0.mk (show w.heap[gb116]? = some (.cells (l0.map (Value.int .i64)).toArray 60 (0, 0)) by rw [← HCS.out]; exact hbox); clear HB hb hbox hg; have HB := Aside0.mk (Below.refl w.heap.size w)) | ((with_reducible refine gate_dst (N := 11) rfl ?_); refine Kd.S_lit (Kd.slice 3 (Kd.int .i64)) _ 22 ?hg (N := 11) ?hd (xs := ([] : List (List Int))) (inner := []) (ok := fun _ => True) (okp := fun _ => True) ?hr ?hp (fun _ hk => hk) trivial (Below.refl _ _) (Nat.le_refl _) (by simp) ?_; (case hd => rfl); (case hg => rfl); (case hr => first | (go_simp; done) | (go_simp; rfl)); (case hp => exact (Reps.none _ _)); intro v140 w2 ho3 hb hg_ hnew_; clear hg_ hnew_; (first | rw [← Ny139.out] at ho3 | (simp only [Int.reduceToNat] at ho3; rw [← Ny139.out] at ho3)); have n0_ := Aside0.mk (Kd.S_lower ho3 (below_size (by repeat (first | (with_reducible first | exact HB.out | apply below_alloc | apply pw_below_drewN | apply below_drew1) | exact HB.out)))); have n1_ := Aside0.mk (below_step (by repeat (first | (with_reducible first | exact HB.out | apply below_alloc | apply pw_below_drewN | apply below_drew1) | exact HB.out)) hb); clear HB; have HO141 := n0_; have HB := n1_; clear n0_ n1_; clear hb ho3) | ((with_reducible refine gate_dst (N := 12) rfl ?_); refine zLoadRow (n := 4) (l := l0) (len := l0.length) [.int .i64 a0_0, .int .i64 a0_1, .int .i64 a0_2, .int .i64 a0_3] (by rw [HL0.out]; rfl) rfl rfl Try.underlying60 (by kernel_rfl) (by first | rfl | (go_simp; done)) (zC_box l0 (by have := HLL.out; omega) (by (with_reducible repeat (first | refine blk_drewN ?_ _ | refine blk_drew ?_ | refine blk_alloc ?_ _)); exact blk_below HBX.out HB.out)) (by have := HLL.out; omega) (by decide) ?_))
    go_loopg [3, 13] k (fun kq v3 v13 w' => ∃ (x3_1 : List (List Int)) (x13_1 : Int), v13 = .int .i64 x13_1 ∧ Aside0 (impl_tally_hooks.l0 kq l0 x3_1 l0 x13_1 = some r) ∧ Aside0 (kq ≤ k) ∧ Aside0 (Kd.S (Kd.slice 3 (Kd.int .i64)) 22 w' w.heap.size (fun _ => True) v3 x3_1) ∧ Aside0 (Below w.heap.size w w'))
    case atStart => exact ⟨(y139), (0), (by first | rfl | (simp; done) | (simp [*]; done)), H', ⟨Nat.le_refl _⟩, ⟨by (with_reducible repeat (first | apply Kd.S_alloc | apply Kd.S_drewN | apply Kd.S_drew)); exact HO141.out⟩, ⟨by repeat (first | (with_reducible first | exact HB.out | apply below_alloc | apply pw_below_drewN | apply below_drew1) | exact HB.out)⟩⟩
    case round =>
      clear H'
      try clear p2
      obtain ⟨x3_1, x13_1, rfl, HA, HK1, HO_3, HB⟩ := hrel
      cases gk with
      | zero => exact absurd HA.out (by simp [impl_tally_hooks.l0])
      | succ k1 =>
        have H := HA.out
        clear HA
        simp only [impl_tally_hooks.l0] at H
        by_cases c4 : x13_1 < 4
        · rw [if_pos c4] at H
          have c4b0 : decide (x13_1 < 4) = true := decide_eq_true c4
          clear c4
          by_cases c5 : 0 ≤ x13_1
          · rw [if_pos c5] at H
            have c5b0 : decide (0 ≤ x13_1) = true := decide_eq_true c5
            clear c5
            by_cases c6 : x13_1 < (l0.length : Int)
            · rw [if_pos c6] at H
              have c6b0 : decide (x13_1 < (l0.length : Int)) = true := decide_eq_true c6
              clear c6
              obtain ⟨y143, hy143⟩ : ∃ y_ : List Int, y_ = (([] : List Int)) := ⟨_, rfl⟩
              replace H : (impl_tally_hooks.l1 k1 l0 x3_1 x13_1 (rd l0 x13_1) y143 l0 x13_1 (rd l0 x13_1) 0) = some r := by first | (rw [hy143]; with_reducible exact H) | (have H2_ := (Option.bind_some _ _).symm.trans H; rw [hy143]; with_reducible exact H2_) | (have H2_ := (Option.bind_some _ _).symm.trans H; with_reducible exact H2_) | with_reducible exact H | (rw [hy143]; exact H) | exact H
              have Ny143 := Aside0.mk hy143
              clear hy143
              have H' := Aside0.mk H
              clear H
              go_wp2_with (first | ((with_reducible refine gate_dst (N := 16) rfl ?_); refine zIndexRow (l := l0) (n := 4) (t := 60) (e := 3) (j := x13_1) rfl rfl Try.underlying60 (by kernel_rfl) (by first | rfl | (go_simp; done)) HCS.out HLL.out (by first | rfl | (go_simp; done)) (of_decide_eq_true (by assumption)) (of_decide_eq_true (by assumption)) Try.underlying3 ?_) | ((with_reducible refine gate_dst (N := 17) rfl ?_); refine Kd.R_lit (Kd.int .i64) _ 3 ?hg (N := 17) ?hd (xs := ([] : List Int)) (inner := []) (ok := fun _ => True) (okp := fun _ => True) ?hr ?hp (fun _ hk => hk) trivial (Below.refl _ _) (Nat.le_refl _) (by simp) ?_; (case hd => rfl); (case hg => rfl); (case hr => first | (go_simp; done) | (go_simp; rfl)); (case hp => exact (Reps.none _ _)); intro v144 w7 ho8 hb hg_ hnew_; clear hg_ hnew_; (first | rw [← Ny143.out] at ho8 | (simp only [Int.reduceToNat] at ho8; rw [← Ny143.out] at ho8)); have n0_ := Aside0.mk (Kd.S_elder' (by (with_reducible repeat (first | apply Kd.S_alloc | apply Kd.S_drewN | apply Kd.S_drew)); exact HO_3.out) (Kd.R_base ho8) hb); have n1_ := Aside0.mk (Kd.R_lower ho8 (below_size (by repeat (first | (with_reducible first | exact HB.out | apply below_alloc | apply pw_below_drewN | apply below_drew1) | exact HB.out)))); have n2_ := Aside0.mk (below_step (by repeat (first | (with_reducible first | exact HB.out | apply below_alloc | apply pw_below_drewN | apply below_drew1) | exact HB.out)) hb); clear HO_3; clear HB; have HO_3 := n0_; have HO145 := n1_; have HB := n2_; clear n0_ n1_ n2_; clear hb ho8))
              go_loopg [6, 19] k1 (fun kq v6 v19 w' => ∃ (x6_2 : List Int) (x19_2 : Int), v19 = .int .i64 x19_2 ∧ Aside0 (impl_tally_hooks.l1 kq l0 x3_1 x13_1 (rd l0 x13_1) x6_2 l0 x13_1 (rd l0 x13_1) x19_2 = some r) ∧ Aside0 (kq ≤ k1) ∧ Aside0 (Kd.S (Kd.slice 3 (Kd.int .i64)) 22 w' w.heap.size (fun k_ => some k_ ≠ (v6 : Value).ownBlock) u3 x3_1) ∧ Aside0 (Kd.R (Kd.int .i64) 3 w' w.heap.size (fun _ => True) v6 x6_2) ∧ Aside0 (Below w.heap.size w w'))
              case atStart => exact ⟨(y143), (0), (by first | rfl | (simp; done) | (simp [*]; done)), H', ⟨Nat.le_refl _⟩, ⟨by (with_reducible repeat (first | apply Kd.S_alloc | apply Kd.S_drewN | apply Kd.S_drew)); exact Kd.S_mono HO_3.out (fun _ hk => hk.2)⟩, ⟨by (with_reducible repeat (first | apply Kd.R_alloc | apply Kd.R_drewN | apply Kd.R_drew)); exact HO145.out⟩, ⟨by repeat (first | (with_reducible first | exact HB.out | apply below_alloc | apply pw_below_drewN | apply below_drew1) | exact HB.out)⟩⟩
              case round =>
                clear H'
                try clear p1
                try clear q1
                try clear hx1
                try clear p2
                try clear c4
                try clear c4b0
                try clear c5
                try clear c5b0
                try clear c6
                try clear c6b0
                try clear p142
                try clear p2
                try clear q142
                obtain ⟨x6_2, x19_2, rfl, HA, HK2, HO_3, HO_6, HB⟩ := hrel
                cases gk with
                | zero => exact absurd HA.out (by simp [impl_tally_hooks.l1])
                | succ k2 =>
                  have H := HA.out
                  clear HA
                  simp only [impl_tally_hooks.l1] at H
                  by_cases c9 : x19_2 < (rd l0 x13_1)
                  · rw [if_pos c9] at H
                    have c9b0 : decide (x19_2 < (rd l0 x13_1)) = true := decide_eq_true c9
                    clear c9
                    obtain ⟨ji10, hji10⟩ : ∃ j_ : Int, (wrap64 (x13_1 + 1)) = j_ := ⟨_, rfl⟩
                    replace H : (if 0 ≤ (ji10) then (if (ji10) ≤ (l0.length : Int) then (impl_tally_hooks.l2 k2 l0 x3_1 x13_1 (rd l0 x13_1) x6_2 x19_2 (wrap64 ((rd l0 x13_1) - x19_2)) l0 x13_1 (rd l0 x13_1) x19_2 (l0.drop ((ji10) : Int).toNat) ((l0.drop ((ji10) : Int).toNat).length : Int) 0) else (none)) else (none)) = some r := by first | (rw [hji10] at H; exact H) | (simp only [hji10] at H ⊢; exact H)
                    have hji10w : (IntKind.i64.wrap (x13_1 + 1)) = ji10 := (i64_w _).trans hji10
                    by_cases c11 : 0 ≤ (ji10)
                    · rw [if_pos c11] at H
                      have c11b0 := eq_true c11
                      have c11b1 : decide (0 ≤ (ji10)) = true := decide_eq_true c11
                      clear c11
                      by_cases c12 : (ji10) ≤ (l0.length : Int)
                      · rw [if_pos c12] at H
                        have c12b0 := eq_true c12
                        have c12b1 : decide ((ji10) ≤ (l0.length : Int)) = true := decide_eq_true c12
                        clear c12
                        have H' := Aside0.mk H
                        clear H
                        have e13 : 0 ≤ ji10 := of_decide_eq_true (by first | (with_reducible assumption) | assumption)
                        have f13 : ji10 ≤ (4 : Int) := by have h_ : ji10 ≤ (l0.length : Int) := of_decide_eq_true (by first | (with_reducible assumption) | assumption); have := HLL.out; omega
                        have HE13 := Aside0.mk e13
                        have HF13 := Aside0.mk f13
                        clear e13 f13
                        have HR149 := Aside0.mk (zC_rest (w := w) l0 4 HLL.out (by omega) ji10.toNat (by have := HE13.out; have := HF13.out; omega) HBX.out)
                        obtain ⟨A13, hA13⟩ : ∃ A, A = zAd gb116 4 ji10.toNat := ⟨_, rfl⟩
                        rw [← hA13] at HR149
                        have HA13 := Aside0.mk hA13
                        clear hA13
                        go_wp2_with (first | ((with_reducible refine gate_dst (N := 27) rfl ?_); refine zSliceRest (l := l0) (n := 4) (t := 60) (e := 3) (g := gb116) (ji := ji10) rfl rfl Try.underlying60 (by kernel_rfl) (by first | rfl | (go_simp; done)) (by first | rfl | (go_simp; done)) (by first | with_reducible rfl | exact hji10 | exact hji10w) HE13.out HF13.out HLL.out ?_; rw [← HA13.out]))
                        go_loopg [8, 29] k2 (fun kq v8 v29 w' => ∃ (x8_3 : Int) (x29_3 : Int), v8 = .int .i64 x8_3 ∧ v29 = .int .i64 x29_3 ∧ Aside0 (impl_tally_hooks.l2 kq l0 x3_1 x13_1 (rd l0 x13_1) x6_2 x19_2 x8_3 l0 x13_1 (rd l0 x13_1) x19_2 (l0.drop ((ji10) : Int).toNat) ((l0.drop ((ji10) : Int).toNat).length : Int) x29_3 = some r) ∧ Aside0 (kq ≤ k2) ∧ Aside0 (Kd.S (Kd.slice 3 (Kd.int .i64)) 22 w' w.heap.size (fun k_ => some k_ ≠ (u6 : Value).ownBlock) u3 x3_1) ∧ Aside0 (Kd.R (Kd.int .i64) 3 w' w.heap.size (fun _ => True) u6 x6_2) ∧ Aside0 (Below w.heap.size w w'))
                        case atStart => exact ⟨(wrap64 ((rd l0 x13_1) - x19_2)), (0), (by first | rfl | (simp; done) | (simp [*]; done)), (by first | rfl | (simp; done) | (simp [*]; done)), H', ⟨Nat.le_refl _⟩, ⟨by (with_reducible repeat (first | apply Kd.S_alloc | apply Kd.S_drewN | apply Kd.S_drew)); exact HO_3.out⟩, ⟨by (with_reducible repeat (first | apply Kd.R_alloc | apply Kd.R_drewN | apply Kd.R_drew)); exact HO_6.out⟩, ⟨by repeat (first | (with_reducible first | exact HB.out | apply below_alloc | apply pw_below_drewN | apply below_drew1) | exact HB.out)⟩⟩
                        case round =>
                          clear H'
                          try clear c1
                          try clear p1
                          try clear q1
                          try clear hx1
                          try clear p2
                          try clear c4
                          try clear c4b0
                          try clear c5
                          try clear c5b0
                          try clear c6
                          try clear c6b0
                          try clear p6
                          try clear c9
                          try clear c9b0
                          try clear c11
                          try clear c11b0
                          try clear c11b1
                          try clear c12
                          try clear c12b0
                          try clear c12b1
                                    try clear p1
                          try clear p142
                          try clear p2
                          try clear q1
                          try clear q142
                          obtain ⟨x8_3, x29_3, rfl, rfl, HA, HK3, HO_3, HO_6, HB⟩ := hrel
                          cases gk with
                          | zero => exact absurd HA.out (by simp [impl_tally_hooks.l2])
                          | succ k3 =>
                            have H := HA.out
                            clear HA
                            simp only [impl_tally_hooks.l2] at H
                            by_cases c14 : x29_3 < ((l0.drop ((ji10) : Int).toNat).length : Int)
                            · rw [if_pos c14] at H
                              have c14b0 : decide (x29_3 < ((l0.drop ((ji10) : Int).toNat).length : Int)) = true := decide_eq_true c14
                              (try (have c14b0d := c14b0; simp only [List.length_drop] at c14b0d))
                              clear c14
                              by_cases c15 : 0 ≤ x29_3
                              · rw [if_pos c15] at H
                                have c15b0 : decide (0 ≤ x29_3) = true := decide_eq_true c15
                                clear c15
                                by_cases c16 : x29_3 < ((l0.drop ((ji10) : Int).toNat).length : Int)
                                · rw [if_pos c16] at H
                                  have c16b0 : decide (x29_3 < ((l0.drop ((ji10) : Int).toNat).length : Int)) = true := decide_eq_true c16
                                  (try (have c16b0d := c16b0; simp only [List.length_drop] at c16b0d))
                                  clear c16
                                  by_cases c17 : (rd (l0.drop ((ji10) : Int).toNat) x29_3) > x19_2
                                  · rw [if_pos c17] at H
                                    have c17b0 : decide (x19_2 < (rd (l0.drop ((ji10) : Int).toNat) x29_3)) = true := decide_eq_true c17
                                    clear c17
                                    have H' := Aside0.mk H
                                    clear H
                                    have p150 : 0 ≤ (x29_3 : Int) := of_decide_eq_true (by first | (with_reducible assumption) | assumption)
                                    have q150 : x29_3 < ((l0.drop ((ji10) : Int).toNat).length : Int) := of_decide_eq_true (by first | (with_reducible assumption) | assumption)
                                    (try (have qd150 := eq_true q150; simp only [List.length_drop] at qd150))
                                    obtain ⟨ad150, e150, hx150_0⟩ := Kd.at_int HR149.out x29_3 p150 q150
                                    cases e150
                                    (try replace hx150_0 := (HB.out.cell (World.block_lt_of_cell? w _ hx150_0)).trans hx150_0)
                                    replace p150 := eq_true p150
                                    replace q150 := eq_true q150
                                    go_wp2
                                    go_roundg k3
                                    case measure => have := HK1.out; have := HK2.out; have := HK3.out; omega
                                    case rel => exact ⟨(wrap64 (x8_3 + 1)), (wrap64 (x29_3 + 1)), (by first | rfl | (simp; done) | (simp [*]; done)), (by first | rfl | (simp; done) | (simp [*]; done)), H', ⟨by have := HK1.out; have := HK2.out; have := HK3.out; omega⟩, ⟨by (with_reducible repeat (first | apply Kd.S_alloc | apply Kd.S_drewN | apply Kd.S_drew)); exact HO_3.out⟩, ⟨by (with_reducible repeat (first | apply Kd.R_alloc | apply Kd.R_drewN | apply Kd.R_drew)); exact HO_6.out⟩, ⟨by repeat (first | (with_reducible first | exact HB.out | apply below_alloc | apply pw_below_drewN | apply below_drew1) | exact HB.out)⟩⟩
                                  · rw [if_neg c17] at H
                                    have c17b0 : decide (x19_2 < (rd (l0.drop ((ji10) : Int).toNat) x29_3)) = false := decide_eq_false c17
                                    clear c17
                                    have H' := Aside0.mk H
                                    clear H
                                    have p150 : 0 ≤ (x29_3 : Int) := of_decide_eq_true (by first | (with_reducible assumption) | assumption)
                                    have q150 : x29_3 < ((l0.drop ((ji10) : Int).toNat).length : Int) := of_decide_eq_true (by first | (with_reducible assumption) | assumption)
                                    (try (have qd150 := eq_true q150; simp only [List.length_drop] at qd150))
                                    obtain ⟨ad150, e150, hx150_0⟩ := Kd.at_int HR149.out x29_3 p150 q150
                                    cases e150
                                    (try replace hx150_0 := (HB.out.cell (World.block_lt_of_cell? w _ hx150_0)).trans hx150_0)
                                    replace p150 := eq_true p150
                                    replace q150 := eq_true q150
                                    go_wp2
                                    go_roundg k3
                                    case measure => have := HK1.out; have := HK2.out; have := HK3.out; omega
                                    case rel => exact ⟨(x8_3), (wrap64 (x29_3 + 1)), (by first | rfl | (simp; done) | (simp [*]; done)), (by first | rfl | (simp; done) | (simp [*]; done)), H', ⟨by have := HK1.out; have := HK2.out; have := HK3.out; omega⟩, ⟨by (with_reducible repeat (first | apply Kd.S_alloc | apply Kd.S_drewN | apply Kd.S_drew)); exact HO_3.out⟩, ⟨by (with_reducible repeat (first | apply Kd.R_alloc | apply Kd.R_drewN | apply Kd.R_drew)); exact HO_6.out⟩, ⟨by repeat (first | (with_reducible first | exact HB.out | apply below_alloc | apply pw_below_drewN | apply below_drew1) | exact HB.out)⟩⟩
                                · rw [if_neg c16] at H
                                  exact absurd H (by simp)
                              · rw [if_neg c15] at H
                                exact absurd H (by simp)
                            · rw [if_neg c14] at H
                              have c14b0 : decide (x29_3 < ((l0.drop ((ji10) : Int).toNat).length : Int)) = false := decide_eq_false c14
                              (try (have c14b0d := c14b0; simp only [List.length_drop] at c14b0d))
                              clear c14
                              by_cases c18 : x6_2.length < 17592186044416
                              · rw [if_pos c18] at H
                                have LMc18 := Aside0.mk c18
                                clear c18
                                obtain ⟨y151, hy151⟩ : ∃ y_ : List Int, y_ = (x6_2 ++ [x8_3]) := ⟨_, rfl⟩
                                replace H : (impl_tally_hooks.l1 k3 l0 x3_1 x13_1 (rd l0 x13_1) y151 l0 x13_1 (rd l0 x13_1) (wrap64 (x19_2 + 1))) = some r := by first | (rw [hy151]; with_reducible exact H) | (have H2_ := (Option.bind_some _ _).symm.trans H; rw [hy151]; with_reducible exact H2_) | (have H2_ := (Option.bind_some _ _).symm.trans H; with_reducible exact H2_) | with_reducible exact H | (rw [hy151]; exact H) | exact H
                                have Ny151 := Aside0.mk hy151
                                clear hy151
                                have H' := Aside0.mk H
                                clear H
                                go_wp2_with (first | ((with_reducible refine gate_builtin (b := .append) (xs := #[.tmp 39, .tmp 41]) rfl ?_); at_builtin; refine Kd.R_append (Kd.int .i64) (w0 := w) w.heap.size rfl (.tmp 39) (.tmp 41) 22 3 (.int .i64 0) 8 rfl Try.underlying22 info3 rfl (by decide) (by omega) u6 x6_2 x8_3 [.int .i64 x8_3] (fun _ => True) (fun _ => False) rfl rfl ?aP (fun _ hk => hk.elim) ?aF ?aO ?aB ?aS ?aL ?_; (case aP => exact rfl); (case aB => exact (by repeat (first | (with_reducible first | exact HB.out | apply below_alloc | apply pw_below_drewN | apply below_drew1) | exact HB.out))); (case aF => exact (fun _ _ => trivial)); (case aO => exact (by (with_reducible repeat (first | apply Kd.R_alloc | apply Kd.R_drewN | apply Kd.R_drew)); exact HO_6.out)); (case aS => exact (below_size (by repeat (first | (with_reducible first | exact HB.out | apply below_alloc | apply pw_below_drewN | apply below_drew1) | exact HB.out)))); (case aL => have := LMc18.out; omega); intro v152 w19 ho hb hg hat; rw [← Ny151.out] at ho; have n0_ := Aside0.mk (Kd.S_after (ok := (fun _ => True)) (by (with_reducible repeat (first | apply Kd.S_alloc | apply Kd.S_drewN | apply Kd.S_drew)); exact Kd.S_mono HO_3.out (fun _ hk => ⟨trivial, hk⟩)) hg hat); have n1_ := Aside0.mk (hb); have n2_ := Aside0.mk (ho); clear HO_3; clear HB; clear HO_6; have HO_3 := n0_; have HB := n1_; have HO153 := n2_; clear n0_ n1_ n2_; clear ho hb hg hat))
                                go_roundg k3
                                case measure => have := HK1.out; have := HK2.out; have := HK3.out; omega
                                case rel => exact ⟨(y151), (wrap64 (x19_2 + 1)), (by first | rfl | (simp; done) | (simp [*]; done)), H', ⟨by have := HK1.out; have := HK2.out; have := HK3.out; omega⟩, ⟨by (with_reducible repeat (first | apply Kd.S_alloc | apply Kd.S_drewN | apply Kd.S_drew)); exact Kd.S_mono HO_3.out (fun _ hk => hk.2)⟩, ⟨by (with_reducible repeat (first | apply Kd.R_alloc | apply Kd.R_drewN | apply Kd.R_drew)); exact HO153.out⟩, ⟨by repeat (first | (with_reducible first | exact HB.out | apply below_alloc | apply pw_below_drewN | apply below_drew1) | exact HB.out)⟩⟩
                              · rw [if_neg c18] at H
                                exact absurd H (by simp)
                      · rw [if_neg c12] at H
                        exact absurd H (by simp)
                    · rw [if_neg c11] at H
                      exact absurd H (by simp)
                  · rw [if_neg c9] at H
                    have c9b0 : decide (x19_2 < (rd l0 x13_1)) = false := decide_eq_false c9
                    clear c9
                    by_cases c20 : x3_1.length < 5864062014805
                    · rw [if_pos c20] at H
                      have LMc20 := Aside0.mk c20
                      clear c20
                      obtain ⟨y146, hy146⟩ : ∃ y_ : List (List Int), y_ = (x3_1 ++ [x6_2]) := ⟨_, rfl⟩
                      replace H : (impl_tally_hooks.l0 k2 l0 y146 l0 (wrap64 (x13_1 + 1))) = some r := by first | (rw [hy146]; with_reducible exact H) | (have H2_ := (Option.bind_some _ _).symm.trans H; rw [hy146]; with_reducible exact H2_) | (have H2_ := (Option.bind_some _ _).symm.trans H; with_reducible exact H2_) | with_reducible exact H | (rw [hy146]; exact H) | exact H
                      have Ny146 := Aside0.mk hy146
                      clear hy146
                      have H' := Aside0.mk H
                      clear H
                      obtain ⟨Ao22, co22, eo22⟩ := Kd.R_slice HO_6.out
                      subst eo22
                      go_wp2_with (first | ((with_reducible refine gate_builtin (b := .append) (xs := #[.tmp 44, .tmp 46]) rfl ?_); at_builtin; refine Kd.S_append (Kd.slice 3 (Kd.int .i64)) (w0 := w) w.heap.size rfl (.tmp 44) (.tmp 46) 50 22 (.slice none 0 0) 24 rfl Try.underlying50 info22 rfl (by decide) (by omega) u3 x3_1 x6_2 [.slice Ao22 x6_2.length co22] (fun _ => True) (fun k_ => some k_ = (.slice Ao22 x6_2.length co22 : Value).ownBlock) rfl rfl ?aP (fun k_ hk_ => ((Kd.R_mono (ok' := fun k_ => ((fun _ => True)) k_ ∧ some k_ ≠ (u3 : Value).ownBlock) (Kd.R_apart' (HO_6.out) (Kd.S_typed HO_3.out) (by decide)) (fun k_ hk => ⟨trivial, hk.2⟩))).1 k_ hk_.symm) ?aF ?aO ?aB ?aS ?aL ?_; (case aP => exact Kd.M_row (Kd.R_mono (Kd.R_tight rfl (Kd.R_mono (ok' := fun k_ => ((fun _ => True)) k_ ∧ some k_ ≠ (u3 : Value).ownBlock) (Kd.R_apart' (HO_6.out) (Kd.S_typed HO_3.out) (by decide)) (fun k_ hk => ⟨trivial, hk.2⟩))) (fun _ h_ => h_))); (case aB => exact (by repeat (first | (with_reducible first | exact HB.out | apply below_alloc | apply pw_below_drewN | apply below_drew1) | exact HB.out))); (case aF => exact (fun _ _ => trivial)); (case aO => exact (by (with_reducible repeat (first | apply Kd.S_alloc | apply Kd.S_drewN | apply Kd.S_drew)); exact Kd.S_mono HO_3.out (fun k_ hk => ⟨trivial, fun e_ => hk e_⟩))); (case aS => exact (below_size (by repeat (first | (with_reducible first | exact HB.out | apply below_alloc | apply pw_below_drewN | apply below_drew1) | exact HB.out)))); (case aL => have := LMc20.out; omega); intro v147 w21 ho hb hg hat; rw [← Ny146.out] at ho; have n0_ := Aside0.mk (hb); have n1_ := Aside0.mk (ho); clear HB; clear HO_3; clear HO_6; have HB := n0_; have HO148 := n1_; clear n0_ n1_; clear ho hb hg hat))
                      go_roundg k2
                      case measure => have := HK1.out; have := HK2.out; omega
                      case rel => exact ⟨(y146), (wrap64 (x13_1 + 1)), (by first | rfl | (simp; done) | (simp [*]; done)), H', ⟨by have := HK1.out; have := HK2.out; omega⟩, ⟨by (with_reducible repeat (first | apply Kd.S_alloc | apply Kd.S_drewN | apply Kd.S_drew)); exact HO148.out⟩, ⟨by repeat (first | (with_reducible first | exact HB.out | apply below_alloc | apply pw_below_drewN | apply below_drew1) | exact HB.out)⟩⟩
                    · rw [if_neg c20] at H
                      exact absurd H (by simp)
            · rw [if_neg c6] at H
              exact absurd H (by simp)
          · rw [if_neg c5] at H
            exact absurd H (by simp)
        · rw [if_neg c4] at H
          have c4b0 : decide (x13_1 < 4) = false := decide_eq_false c4
          clear c4
          obtain rfl := Option.some.inj H
          go_wp2
          go_ret
          exact ⟨w, HB3.out, _, by first | rfl | (simp [errW_none, errW_some] <;> rfl) | (simp [*, errW_none, errW_some] <;> rfl), by (with_reducible repeat (first | apply Kd.S_alloc | apply Kd.S_drewN | apply Kd.S_drew)); exact HO_3.out, by repeat (first | (with_reducible first | exact HB.out | apply below_alloc | apply pw_below_drewN | apply below_drew1) | exact HB.out)⟩
  refine hfin.mono ?_
  rintro e w' ⟨w3, hb3, v, he, hS, hb⟩
  exact ⟨v, he, Kd.S_lower hS (below_size hb3), below_step hb3 hb⟩

/-! ### impl_gcd: function 95 -/
def impl_gcd.l0 : Nat → Int → Int → Option (Int)
  | 0, _, _ => none
  | k + 1, x0, x1 => if x1 = 0 then (some x0) else (impl_gcd.l0 k x1 (Int.tmod x0 x1))
def impl_gcd.f (k : Nat) (a0 : Int) (a1 : Int) : Option (Int) := impl_gcd.l0 k a0 a1
theorem impl_gcd.mono_l : ∀ k, (∀ y0 y1, LeO (impl_gcd.l0 k y0 y1) (impl_gcd.l0 (k + 1) y0 y1))
  | 0 => fun _ _ r h => by simp [impl_gcd.l0] at h
  | k + 1 => by
    have ih0 := impl_gcd.mono_l k
    · intro y0 y1
      unfold impl_gcd.l0
      repeat' first
      | (with_reducible exact ih0 _ _)
      | (with_reducible exact LeO.refl _)
      | (with_reducible exact LeO.none _)
      | (with_reducible refine LeO.ite ?_ ?_)
      | (with_reducible refine LeO.bind ?_ (fun _ => ?_))
      | exact ih0 _ _
      | exact LeO.none _
      | refine LeO.ite ?_ ?_
      | refine LeO.bind ?_ (fun _ => ?_)
theorem impl_gcd.mono : ∀ a0 a1 k, LeO (impl_gcd.f k a0 a1) (impl_gcd.f (k + 1) a0 a1) := by
  intro a0 a1 k
  have ih0 := impl_gcd.mono_l k
  unfold impl_gcd.f
  repeat' first
      | (with_reducible exact ih0 _ _)
      | (with_reducible exact LeO.refl _)
      | (with_reducible exact LeO.none _)
      | (with_reducible refine LeO.ite ?_ ?_)
      | (with_reducible refine LeO.bind ?_ (fun _ => ?_))
      | exact ih0 _ _
      | exact LeO.none _
      | refine LeO.ite ?_ ?_
      | refine LeO.bind ?_ (fun _ => ?_)
set_option maxHeartbeats 8000000 in
set_option maxRecDepth 100000 in
theorem impl_gcd.calls (k : Nat) (a0 : Int) (a1 : Int) (r : Int) (w : World) (h : impl_gcd.f k a0 a1 = some r) :
    Calls Try.prog 95 #[.int .i64 a0, .int .i64 a1] w fun e w' => e = .returned (.int .i64 r) ∧ Drawn0 w w' := by
  have H : (impl_gcd.l0 k a0 a1) = some r := h
  clear h
  have H' := Aside0.mk H
  clear H
  go_enter Try.func95, Try.ntmps95
  go_wp2
  repeat (go_quiet (fail); try go_wp2)
  go_loopg [0, 1] k (fun kq v0 v1 w' => ∃ (x0_1 : Int) (x1_1 : Int), v0 = .int .i64 x0_1 ∧ v1 = .int .i64 x1_1 ∧ Aside0 (impl_gcd.l0 kq x0_1 x1_1 = some r) ∧ Aside0 (kq ≤ k) ∧ Drawn0 w w')
  case atStart => exact ⟨(a0), (a1), (by first | rfl | (simp; done) | (simp [*]; done)), (by first | rfl | (simp; done) | (simp [*]; done)), H', ⟨Nat.le_refl _⟩, by repeat (first | exact Drawn0.refl _ | apply Drawn0.step)⟩
  case round =>
    clear H'
    try clear p2
    obtain ⟨x0_1, x1_1, rfl, rfl, HA, HK1, ⟨m1, rfl⟩⟩ := hrel
    cases gk with
    | zero => exact absurd HA.out (by simp [impl_gcd.l0])
    | succ k1 =>
      have H := HA.out
      clear HA
      simp only [impl_gcd.l0] at H
      by_cases c3 : x1_1 = 0
      · rw [if_pos c3] at H
        have c3b0 : (x1_1 == 0) = true := beq_iff_eq.mpr c3
        have c3b1 : (x1_1 != 0) = false := bne_eq_false_iff_eq.mpr c3
        clear c3
        obtain rfl := Option.some.inj H
        go_wp2
        repeat (go_quiet (fail); try go_wp2)
        go_ret
        exact ⟨by first | rfl | (simp; done) | (simp [*]; done), by repeat (first | exact Drawn0.refl _ | apply Drawn0.step)⟩
      · rw [if_neg c3] at H
        have c3b0 : (x1_1 == 0) = false := beq_eq_false_iff_ne.mpr c3
        have c3b1 : (x1_1 != 0) = true := bne_iff_ne.mpr c3
        have H' := Aside0.mk H
        clear H
        go_wp2
        repeat (go_quiet (fail); try go_wp2)
        go_roundg k1
        case measure => have := HK1.out; omega
        case rel => exact ⟨(x1_1), (Int.tmod x0_1 x1_1), (by first | rfl | (simp; done) | (simp [*]; done)), (by first | rfl | (simp; done) | (simp [*]; done)), H', ⟨by have := HK1.out; omega⟩, by repeat (first | exact Drawn0.refl _ | apply Drawn0.step)⟩

end Go.Proofs.Ytgpebahbeccniaa.QFnExactAllOrdered
