/- Written by a program of this repo (xprint: a turned copy of the kit's print, with our own templates in it); Lean checks all of it. -/
import Derived.Test.YtgpebahbeccniaaQFnExactAllOrderedx0
import Derived.Test.YtgpebahbeccniaaQFnExactAllOrderedx4
namespace Go.Proofs.Ytgpebahbeccniaa.QFnExactAllOrdered
open Go.RowKit Go.Proofs.YtgpebahbeccniaaZ Go.Proofs.YtgpebahbeccniaaZm Go.Maps Go.Proofs.YtgpebahbeccniaaZt Go.Proofs.YtgpebahbeccniaaW.PrintWords Go.Proofs.YtgpebahbeccniaaW.PrintLast Go.Proofs.YtgpebahbeccniaaW.PrintMore
attribute [local go_sem] max2_int min2_int max_two min_two max_three min_three max_four min_four   -- for this text's walks alone
set_option linter.unusedVariables false
set_option linter.unusedSimpArgs false

/-! ### impl_votesOn_2: function 83 -/
/-- One round: x is the number raised, y the goal's. -/
def impl_votesOn_2.one (of : Int → Int → Int → Int → Option Int) (x y b0 b1 b2 b3 out : Int) : Option Int := if x ≤ y then ((impl_tally_isOrdered.f b0 b1 b2 b3).bind fun t => (if t = true then ((of b0 b1 b2 b3).bind fun q => some (wrap64 (out + q))) else some out)) else some out
def impl_votesOn_2.step (of : Int → Int → Int → Int → Option Int) (g0 g1 g2 g3 a b c d : Int) : Nat → Int → Option Int
  | 0, out => impl_votesOn_2.one of (wrap64 (d + 1)) g3 a b c (wrap64 (d + 1)) out
  | 1, out => impl_votesOn_2.one of (wrap64 (c + 1)) g2 a b (wrap64 (c + 1)) d out
  | 2, out => impl_votesOn_2.one of (wrap64 (b + 1)) g1 a (wrap64 (b + 1)) c d out
  | _, out => impl_votesOn_2.one of (wrap64 (a + 1)) g0 (wrap64 (a + 1)) b c d out
/-- The rounds that are still to come: so many. -/
def impl_votesOn_2.sum (of : Int → Int → Int → Int → Option Int) (g0 g1 g2 g3 a b c d : Int) : Nat → Int → Option Int
  | 0, out => some out
  | m + 1, out => (impl_votesOn_2.step of g0 g1 g2 g3 a b c d m out).bind fun o => impl_votesOn_2.sum of g0 g1 g2 g3 a b c d m o
def impl_votesOn_2.g (g0 g1 g2 g3 : Int) : Nat → Int → Int → Int → Int → Option Int
  | 0, _, _, _, _ => none
  | k + 1, a, b, c, d => if a = g0 ∧ b = g1 ∧ c = g2 ∧ d = g3 then some 1 else impl_votesOn_2.sum (impl_votesOn_2.g g0 g1 g2 g3 k) g0 g1 g2 g3 a b c d 4 0
theorem impl_votesOn_2.one_mono {of of' : Int → Int → Int → Int → Option Int} (h : ∀ a b c d, LeO (of a b c d) (of' a b c d)) (x y b0 b1 b2 b3 out : Int) : LeO (impl_votesOn_2.one of x y b0 b1 b2 b3 out) (impl_votesOn_2.one of' x y b0 b1 b2 b3 out) :=
  LeO.ite (LeO.bind (LeO.refl _) fun _ => LeO.ite (LeO.bind (h _ _ _ _) fun _ => LeO.refl _) (LeO.refl _)) (LeO.refl _)
theorem impl_votesOn_2.step_mono {of of' : Int → Int → Int → Int → Option Int} (h : ∀ a b c d, LeO (of a b c d) (of' a b c d)) (g0 g1 g2 g3 a b c d : Int) : ∀ (m : Nat) (out : Int), LeO (impl_votesOn_2.step of g0 g1 g2 g3 a b c d m out) (impl_votesOn_2.step of' g0 g1 g2 g3 a b c d m out)
  | 0, _ => impl_votesOn_2.one_mono h _ _ _ _ _ _ _
  | 1, _ => impl_votesOn_2.one_mono h _ _ _ _ _ _ _
  | 2, _ => impl_votesOn_2.one_mono h _ _ _ _ _ _ _
  | _ + 3, _ => impl_votesOn_2.one_mono h _ _ _ _ _ _ _
theorem impl_votesOn_2.sum_mono {of of' : Int → Int → Int → Int → Option Int} (h : ∀ a b c d, LeO (of a b c d) (of' a b c d)) (g0 g1 g2 g3 a b c d : Int) : ∀ (m : Nat) (out : Int), LeO (impl_votesOn_2.sum of g0 g1 g2 g3 a b c d m out) (impl_votesOn_2.sum of' g0 g1 g2 g3 a b c d m out)
  | 0, _ => LeO.refl _
  | m + 1, out => LeO.bind (impl_votesOn_2.step_mono h g0 g1 g2 g3 a b c d m out) fun o => impl_votesOn_2.sum_mono h g0 g1 g2 g3 a b c d m o
theorem impl_votesOn_2.mono (g0 g1 g2 g3 : Int) : ∀ k a b c d, LeO (impl_votesOn_2.g g0 g1 g2 g3 k a b c d) (impl_votesOn_2.g g0 g1 g2 g3 (k + 1) a b c d)
  | 0 => fun _ _ _ _ r h => by simp [impl_votesOn_2.g] at h
  | k + 1 => by
    intro a b c d
    have ih := impl_votesOn_2.mono g0 g1 g2 g3 k
    have e : ∀ j, impl_votesOn_2.g g0 g1 g2 g3 (j + 1) a b c d = if a = g0 ∧ b = g1 ∧ c = g2 ∧ d = g3 then some 1 else impl_votesOn_2.sum (impl_votesOn_2.g g0 g1 g2 g3 j) g0 g1 g2 g3 a b c d 4 0 := fun _ => rfl
    rw [e k, e (k + 1)]
    exact LeO.ite (LeO.refl _) (impl_votesOn_2.sum_mono ih g0 g1 g2 g3 a b c d 4 0)
theorem impl_votesOn_2.up (g0 g1 g2 g3 : Int) {k : Nat} {a b c d x : Int} (h : impl_votesOn_2.g g0 g1 g2 g3 k a b c d = some x) : ∀ m, impl_votesOn_2.g g0 g1 g2 g3 (k + m) a b c d = some x
  | 0 => h
  | m + 1 => impl_votesOn_2.mono g0 g1 g2 g3 (k + m) a b c d x (impl_votesOn_2.up g0 g1 g2 g3 h m)
theorem impl_votesOn_2.uniq (g0 g1 g2 g3 : Int) {k k' : Nat} {a b c d x y : Int} (h : impl_votesOn_2.g g0 g1 g2 g3 k a b c d = some x) (h' : impl_votesOn_2.g g0 g1 g2 g3 k' a b c d = some y) : x = y := by
  have e1 := impl_votesOn_2.up g0 g1 g2 g3 h k'
  have e2 := impl_votesOn_2.up g0 g1 g2 g3 h' k
  rw [Nat.add_comm] at e2
  exact Option.some.inj (e1.symm.trans e2)
theorem impl_votesOn_2.sum_cases {of : Int → Int → Int → Int → Option Int} {g0 g1 g2 g3 a b c d : Int} {m : Nat} {out r : Int} (h : impl_votesOn_2.sum of g0 g1 g2 g3 a b c d (m + 1) out = some r) : ∃ o, impl_votesOn_2.step of g0 g1 g2 g3 a b c d m out = some o ∧ impl_votesOn_2.sum of g0 g1 g2 g3 a b c d m o = some r := Option.bind_eq_some_iff.mp h
theorem impl_votesOn_2.one_cases {of : Int → Int → Int → Int → Option Int} {x y b0 b1 b2 b3 out o : Int} (h : impl_votesOn_2.one of x y b0 b1 b2 b3 out = some o) : (¬ x ≤ y ∧ o = out) ∨ (x ≤ y ∧ impl_tally_isOrdered.f b0 b1 b2 b3 = some false ∧ o = out) ∨ (x ≤ y ∧ impl_tally_isOrdered.f b0 b1 b2 b3 = some true ∧ ∃ q, of b0 b1 b2 b3 = some q ∧ o = wrap64 (out + q)) := by
  unfold impl_votesOn_2.one at h
  by_cases e : x ≤ y
  · rw [if_pos e] at h
    obtain ⟨t, ht, h⟩ := Option.bind_eq_some_iff.mp h
    cases t with
    | true =>
      rw [if_pos rfl] at h
      obtain ⟨q, hq, h⟩ := Option.bind_eq_some_iff.mp h
      exact .inr (.inr ⟨e, ht, q, hq, (Option.some.inj h).symm⟩)
    | false =>
      rw [if_neg (by decide)] at h
      exact .inr (.inl ⟨e, ht, (Option.some.inj h).symm⟩)
  · rw [if_neg e] at h
    exact .inl ⟨e, (Option.some.inj h).symm⟩
def impl_votesOn_2.ok (g0 g1 g2 g3 : Int) (key : Value) (x : Int) : Prop := ∃ k a b c d, key = .agg #[.int .i64 a, .int .i64 b, .int .i64 c, .int .i64 d] ∧ impl_votesOn_2.g g0 g1 g2 g3 k a b c d = some x
theorem impl_votesOn_2.enters : Enters Try.prog 83 := ent_of Try.func83 (by kernel_rfl) rfl
theorem impl_votesOn_2.law : Maps.Keyed Try.prog 60 := Maps.Keyed.of_law (deep_law_laid (by kernel_rfl) (m := 2) (by omega) (of_decide_eq_true (by kernel_rfl)) (by kernel_rfl) (by rw [Try.underlying60]))
theorem impl_votesOn_2.key (a b c d : Int) (wa : (Lit.int .i64 a).wf = true) (wb : (Lit.int .i64 b).wf = true) (wc : (Lit.int .i64 c).wf = true) (wd : (Lit.int .i64 d).wf = true) : ∃ kl, keyOf Try.prog 60 (.agg #[.int .i64 a, .int .i64 b, .int .i64 c, .int .i64 d]) = some kl := by
  obtain ⟨s, hs⟩ : ∃ s, Try.prog.types.size = s + 1 := ⟨Try.prog.types.size - 1, by kernel_rfl⟩
  exact zKey4 (e := 3) Try.underlying60 Try.underlying3 (by kernel_rfl) (by kernel_rfl) (by kernel_rfl) hs wa wb wc wd
theorem impl_votesOn_2.zero (w : World) : (zeroValue 3).run Try.prog w = .ok (.int .i64 0) w := by kernel_rfl
theorem impl_votesOn_2.one_wf {of : Int → Int → Int → Int → Option Int} {x y b0 b1 b2 b3 out o : Int} (w : (Lit.int .i64 out).wf = true) (h : impl_votesOn_2.one of x y b0 b1 b2 b3 out = some o) : (Lit.int .i64 o).wf = true := by
  rcases impl_votesOn_2.one_cases h with ⟨_, rfl⟩ | ⟨_, _, rfl⟩ | ⟨_, _, q, _, rfl⟩
  · exact w
  · exact w
  · exact wrap64_wf _
theorem impl_votesOn_2.sum_wf {of : Int → Int → Int → Int → Option Int} {g0 g1 g2 g3 a b c d : Int} : ∀ (m : Nat) {out r : Int}, (Lit.int .i64 out).wf = true → impl_votesOn_2.sum of g0 g1 g2 g3 a b c d m out = some r → (Lit.int .i64 r).wf = true
  | 0, out, r, w, h => by
    obtain rfl := Option.some.inj h
    exact w
  | m + 1, out, r, w, h => by
    obtain ⟨o, h1, h2⟩ := impl_votesOn_2.sum_cases h
    refine impl_votesOn_2.sum_wf m ?_ h2
    rcases m with _ | _ | _ | m <;> exact impl_votesOn_2.one_wf w h1
theorem impl_votesOn_2.wf {g0 g1 g2 g3 : Int} : ∀ {k : Nat} {a b c d r : Int}, impl_votesOn_2.g g0 g1 g2 g3 k a b c d = some r → (Lit.int .i64 r).wf = true
  | 0, a, b, c, d, r, h => by simp [impl_votesOn_2.g] at h
  | k + 1, a, b, c, d, r, h => by
    have h : (if a = g0 ∧ b = g1 ∧ c = g2 ∧ d = g3 then some 1 else impl_votesOn_2.sum (impl_votesOn_2.g g0 g1 g2 g3 k) g0 g1 g2 g3 a b c d 4 0) = some r := h
    by_cases q : a = g0 ∧ b = g1 ∧ c = g2 ∧ d = g3
    · rw [if_pos q] at h
      obtain rfl := Option.some.inj h
      decide
    · rw [if_neg q] at h
      exact impl_votesOn_2.sum_wf 4 (by decide) h
theorem impl_votesOn_2.bx {n k : Nat} (hn : n + 8 ^ (k + 1) ≤ maxLen) : ∀ m, m ≤ n + (4 - 0) * 8 ^ k → m < maxLen ∧ m + 1 < n + 8 ^ (k + 1) := by
  intro m hm
  have e1 := Nat.pow_succ 8 k
  have e2 : 0 < 8 ^ k := Nat.pow_pos (by decide)
  omega
theorem impl_votesOn_2.by_ {n k : Nat} (hn : n + 8 ^ (k + 1) ≤ maxLen) : ∀ m j, j < 4 → m ≤ n + (4 - (j + 1)) * 8 ^ k → m + 8 ^ k ≤ maxLen := by
  intro m j hj hm
  have e1 := Nat.pow_succ 8 k
  have e3 : (4 - (j + 1)) * 8 ^ k ≤ 3 * 8 ^ k := Nat.mul_le_mul_right _ (by omega)
  omega
theorem impl_votesOn_2.bz (n k : Nat) : ∀ m m' j, j < 4 → m ≤ n + (4 - (j + 1)) * 8 ^ k → m' < m + 8 ^ k → m' ≤ n + (4 - j) * 8 ^ k := by
  intro m m' j hj hm hm'
  have e4 : (4 - j) * 8 ^ k = (4 - (j + 1)) * 8 ^ k + 8 ^ k := by
    rw [show 4 - j = (4 - (j + 1)) + 1 by omega, Nat.add_mul, Nat.one_mul]
  omega
def impl_votesOn_2.idx : Nat → Int
  | 0 => 4
  | 1 => 3
  | 2 => 2
  | 3 => 1
  | _ => 0
set_option maxHeartbeats 4000000 in
set_option maxRecDepth 100000 in
theorem impl_votesOn_2.calls (g0 g1 g2 g3 : Int) (bg bk bf B : Nat) (hne : B ≠ bg ∧ B ≠ bk ∧ B ≠ bf) : ∀ (k : Nat) (a b c d r : Int) (n : Nat) (w : World) (_ : (Lit.int .i64 a).wf = true) (_ : (Lit.int .i64 b).wf = true) (_ : (Lit.int .i64 c).wf = true) (_ : (Lit.int .i64 d).wf = true)
    (_ : w.heap[bg]? = some (.cells #[.int .i64 g0, .int .i64 g1, .int .i64 g2, .int .i64 g3] 60 (0, 0))) (_ : w.cell? ⟨bk, 0, none⟩ = some (.map (some B))) (_ : w.cell? ⟨bf, 0, none⟩ = some (.func (.func 83) #[] #[.pointer (some ⟨bg, 0, none⟩), .pointer (some ⟨bk, 0, none⟩), .pointer (some ⟨bf, 0, none⟩)]))
    (_ : Memo Try.prog 60 3 w B n (impl_votesOn_2.ok g0 g1 g2 g3)) (_ : n + 8 ^ k ≤ maxLen) (_ : impl_votesOn_2.g g0 g1 g2 g3 k a b c d = some r),
    Calls Try.prog 83 #[.agg #[.int .i64 a, .int .i64 b, .int .i64 c, .int .i64 d], .pointer (some ⟨bg, 0, none⟩), .pointer (some ⟨bk, 0, none⟩), .pointer (some ⟨bf, 0, none⟩)] w
      fun e w' => e = .returned (.int .i64 r) ∧ w.grownBy w' (some B) ∧ ∃ n', n' < n + 8 ^ k ∧ Memo Try.prog 60 3 w' B n' (impl_votesOn_2.ok g0 g1 g2 g3) := by
  have heg : ∀ (args : Array Value) (w : World), (callFunc 83 args).run Try.prog w = .ok (.enter 83 args) w := impl_votesOn_2.enters
  intro k
  induction k with
  | zero => intro a b c d r n w _ _ _ _ _ _ _ _ _ h; simp [impl_votesOn_2.g] at h
  | succ k ih =>
    intro a b c d r n w wa wb wc wd BG0 c1 c2 hM hn h
    have hg0 := Aside0.mk h
    have BG := Aside0.mk BG0
    clear BG0
    have hpos : n < n + 8 ^ (k + 1) := Nat.lt_add_of_pos_right (Nat.pow_pos (by decide))
    have HLT := Aside0.mk hM.lt
    have HX := Aside0.mk (impl_votesOn_2.bx hn)
    have HY := Aside0.mk (impl_votesOn_2.by_ hn)
    have HZ := Aside0.mk (impl_votesOn_2.bz n k)
    have h : (if a = g0 ∧ b = g1 ∧ c = g2 ∧ d = g3 then some 1 else impl_votesOn_2.sum (impl_votesOn_2.g g0 g1 g2 g3 k) g0 g1 g2 g3 a b c d 4 0) = some r := h
    by_cases q : a = g0 ∧ b = g1 ∧ c = g2 ∧ d = g3
    · rw [if_pos q] at h
      obtain rfl := Option.some.inj h
      have qb := Aside0.mk (show (a == g0 && (b == g1 && (c == g2 && d == g3))) = true by simp [q])
      clear q h
      go_enter Try.func83, Try.ntmps83
      go_wp2_with (first | ((with_reducible refine gate_dst (N := 4) rfl ?_); refine box_event ?hg (N := 4) ?hd (cs := #[.int .i64 a, .int .i64 b, .int .i64 c, .int .i64 d]) (t := 60) ?hr ?_; (case hd => rfl); (case hg => rfl); (case hr => first | (go_simp; done) | (go_simp; rfl)); intro gb hgb w4 hbox hb; have HBX := Aside0.mk hbox; have HGE := Aside0.mk (Nat.le_of_eq hgb.symm : w.heap.size ≤ gb); have HB4 := Aside0.mk hb; have BG4 := Aside0.mk (blk_below BG.out hb); have c1n := (hb.cell (World.block_lt_of_cell? w _ c1)).trans c1; have c2n := (hb.cell (World.block_lt_of_cell? w _ c2)).trans c2; clear c1 c2; have c1 := c1n; have c2 := c2n; clear c1n c2n; clear hgb hb hbox) | ((with_reducible refine gate_dst (N := 10) rfl ?_); refine zLoadBox4 (t := 60) (e := 3) rfl rfl Try.underlying60 (by kernel_rfl) rfl HBX.out ?_) | ((with_reducible refine gate_dst (N := 11) rfl ?_); refine zLoadBox4 (t := 60) (e := 3) rfl rfl Try.underlying60 (by kernel_rfl) rfl BG4.out ?_) | ((with_reducible refine gate_dst (N := 12) rfl ?_); refine zEqArr4 (t := 60) (e := 3) rfl rfl Try.underlying60 Try.underlying3 (by kernel_rfl) (by kernel_rfl) rfl rfl qb.out ?_))
      go_ret
      exact ⟨rfl, grown_below (World.grownBy.refl _ _) HB4.out, n, hpos, hM.below HB4.out⟩
    · rw [if_neg q] at h
      have qb := Aside0.mk (show (a == g0 && (b == g1 && (c == g2 && d == g3))) = false by simpa using q)
      obtain ⟨kl, hkey⟩ := impl_votesOn_2.key a b c d wa wb wc wd
      have HH := Aside0.mk h
      clear q h
      go_enter Try.func83, Try.ntmps83
      go_upto_region 3 with (first | ((with_reducible refine gate_dst (N := 4) rfl ?_); refine box_event ?hg (N := 4) ?hd (cs := #[.int .i64 a, .int .i64 b, .int .i64 c, .int .i64 d]) (t := 60) ?hr ?_; (case hd => rfl); (case hg => rfl); (case hr => first | (go_simp; done) | (go_simp; rfl)); intro gb hgb w4 hbox hb; have HBX := Aside0.mk hbox; have HGE := Aside0.mk (Nat.le_of_eq hgb.symm : w.heap.size ≤ gb); have HB4 := Aside0.mk hb; have BG4 := Aside0.mk (blk_below BG.out hb); have c1n := (hb.cell (World.block_lt_of_cell? w _ c1)).trans c1; have c2n := (hb.cell (World.block_lt_of_cell? w _ c2)).trans c2; clear c1 c2; have c1 := c1n; have c2 := c2n; clear c1n c2n; clear hgb hb hbox) | ((with_reducible refine gate_dst (N := 10) rfl ?_); refine zLoadBox4 (t := 60) (e := 3) rfl rfl Try.underlying60 (by kernel_rfl) rfl HBX.out ?_) | ((with_reducible refine gate_dst (N := 11) rfl ?_); refine zLoadBox4 (t := 60) (e := 3) rfl rfl Try.underlying60 (by kernel_rfl) rfl BG4.out ?_) | ((with_reducible refine gate_dst (N := 12) rfl ?_); refine zEqArr4 (t := 60) (e := 3) rfl rfl Try.underlying60 Try.underlying3 (by kernel_rfl) (by kernel_rfl) rfl rfl qb.out ?_))
      have hM4 := hM.below HB4.out
      clear hM
      have HM4 := Aside0.mk hM4
      rcases hM4.look (t := 108) impl_votesOn_2.law Try.underlying108 Try.underlying3 (impl_votesOn_2.zero _) hkey with ⟨z, hok, hrun⟩ | hrun
      · obtain ⟨k', a', b', c', d', e1, hg1⟩ := hok
        simp only [Value.agg.injEq, Array.mk.injEq, List.cons.injEq, Value.int.injEq, true_and, and_true] at e1
        obtain ⟨rfl, rfl, rfl, rfl⟩ := e1
        obtain rfl := impl_votesOn_2.uniq _ _ _ _ hg1 hg0.out
        clear hM4 hg1 hkey
        go_wp2_with (first | ((with_reducible refine gate_dst (N := 15) rfl ?_); refine zLoadBox4 (t := 60) (e := 3) rfl rfl Try.underlying60 (by kernel_rfl) rfl HBX.out ?_))
        go_ret
        exact ⟨rfl, grown_below (World.grownBy.refl _ _) HB4.out, n, hpos, HM4.out⟩
      · clear hM4
        have HKEY := Aside0.mk hkey
        clear hkey
        go_wp2_with (first | ((with_reducible refine gate_dst (N := 15) rfl ?_); refine zLoadBox4 (t := 60) (e := 3) rfl rfl Try.underlying60 (by kernel_rfl) rfl HBX.out ?_))
        clear hrun
        go_loopg [6, 21] 4 (fun m v6 v21 w' => ∃ (out : Int) (n' : Nat), v21 = .int .i64 (impl_votesOn_2.idx m) ∧ v6 = .int .i64 out ∧ Aside0 (impl_votesOn_2.sum (impl_votesOn_2.g g0 g1 g2 g3 k) g0 g1 g2 g3 a b c d m out = some r) ∧ Aside0 (m ≤ 4) ∧ Aside0 (w4.grownBy w' (some B)) ∧ Aside0 (n' ≤ n + (4 - m) * 8 ^ k) ∧ Aside0 (Memo Try.prog 60 3 w' B n' (impl_votesOn_2.ok g0 g1 g2 g3)))
        case atStart => exact ⟨0, n, rfl, rfl, HH, ⟨Nat.le_refl _⟩, ⟨by first | exact World.grownBy.refl _ _ | exact grown_drew (World.grownBy.refl _ _)⟩, ⟨Nat.le_add_right _ _⟩, ⟨by first | exact HM4.out | exact HM4.out.drew⟩⟩
        case round =>
          obtain ⟨out, n', h21, rfl, HA, HK, HG, HN, HMr⟩ := hrel
          have hBg : B ≠ gb := Nat.ne_of_lt (Nat.lt_of_lt_of_le HLT.out HGE.out)
          have BGr := Aside0.mk (blk_grown BG4.out HG.out (fun e => hne.1 (Option.some.inj e).symm))
          have BNr := Aside0.mk (blk_grown HBX.out HG.out (fun e => hBg (Option.some.inj e).symm))
          have c1r := HG.out.cell c1 (fun e => hne.2.1 (Option.some.inj e).symm)
          have c2r := HG.out.cell c2 (fun e => hne.2.2 (Option.some.inj e).symm)
          clear c1 c2
          cases gk with
          | zero =>
            obtain rfl := Option.some.inj HA.out
            have e21 : u21 = .int .i64 4 := h21
            subst e21
            clear h21
            go_wp2_with (first | ((with_reducible refine gate_dst (N := 48) rfl ?_); refine zLoadBox4 (t := 60) (e := 3) rfl rfl Try.underlying60 (by kernel_rfl) rfl BNr.out ?_) | (at_mapUpdate; refine wpList_memo_put rfl _ _ _ 108 rfl impl_votesOn_2.law Try.underlying108 Try.underlying3 rfl HMr.out (HX.out n' HN.out).1 (.agg #[.int .i64 a, .int .i64 b, .int .i64 c, .int .i64 d]) kl out rfl rfl HKEY.out (impl_votesOn_2.wf hg0.out) ⟨k + 1, a, b, c, d, rfl, hg0.out⟩ ?_; intro w9 hM9 hg9; have HM9 := Aside0.mk hM9; have HG9 := Aside0.mk hg9; clear hM9 hg9))
            go_ret
            exact ⟨rfl, ((grown_below (World.grownBy.refl _ _) HB4.out).trans HG.out).trans HG9.out, n' + 1, (HX.out n' HN.out).2, HM9.out⟩
          | succ m =>
            have hm : m < 4 := HK.out
            rcases m with _ | _ | _ | _ | m
            · have e21 : u21 = .int .i64 3 := h21
              subst e21
              clear h21
              obtain ⟨o2, S0, H2⟩ := impl_votesOn_2.sum_cases HA.out
              obtain ⟨x, hx⟩ : ∃ x, x = wrap64 (d + 1) := ⟨_, rfl⟩
              have S1 : impl_votesOn_2.one (impl_votesOn_2.g g0 g1 g2 g3 k) x g3 a b c x out = some o2 := by rw [hx]; exact S0
              have HX1 := Aside0.mk hx
              have wx : (Lit.int .i64 x).wf = true := by rw [hx]; exact wrap64_wf _
              clear S0 hx HA
              have H3 := Aside0.mk H2
              clear H2
              go_upto_region 10 with (first | ((with_reducible refine gate_dst (N := 9) rfl ?_); refine box_event ?hg (N := 9) ?hd (cs := #[.int .i64 0, .int .i64 0, .int .i64 0, .int .i64 0]) (t := 60) ?hr ?_; (case hd => rfl); (case hg => rfl); (case hr => first | (go_simp; done) | (go_simp; rfl)); intro gn hgn w5 hbox hb; have HBN := Aside0.mk hbox; have HGN := Aside0.mk (Nat.le_of_eq hgn.symm : wr.heap.size ≤ gn); have HB5 := Aside0.mk hb; clear hgn hb hbox) | ((with_reducible refine gate_dst (N := 24) rfl ?_); refine zLoadBox4 (t := 60) (e := 3) rfl rfl Try.underlying60 (by kernel_rfl) rfl BNr.out ?_) | ((with_reducible refine gate_store (t := 60) (p := 9) rfl ?_); refine zStoreBox4 (t := 60) rfl rfl rfl (by kernel_rfl) rfl rfl HBN.out ?_; intro w6 hs6 hg6; have HBN6 := Aside0.mk hs6; have HG6 := Aside0.mk hg6; clear hs6 hg6) | ((with_reducible refine gate_dst (N := 26) rfl ?_); refine zIndexAt (i := 3) (n := 4) (t := 60) (e := 3) rfl rfl Try.underlying60 (by kernel_rfl) rfl rfl rfl (by decide) ?_) | ((with_reducible refine gate_dst (N := 27) rfl ?_); refine zLoadAt (t := 3) (k := .i64) (x := d) rfl rfl Try.underlying3 rfl HBN6.out rfl ?_) | ((with_reducible refine gate_dst (N := 29) rfl ?_); refine zIndexAt (i := 3) (n := 4) (t := 60) (e := 3) rfl rfl Try.underlying60 (by kernel_rfl) rfl rfl rfl (by decide) ?_) | ((with_reducible refine gate_store (t := 3) (p := 29) rfl ?_); refine zStoreAt (t := 3) (k := .i64) (x := x) rfl rfl rfl (by kernel_rfl) rfl (by rw [HX1.out]; first | rfl | (rw [← i64_w]; rfl) | (go_simp; done)) HBN6.out (show 3 < 4 by decide) ?_; intro w7 hs7 hg7; have HBN7 := Aside0.mk (show w7.heap[gn]? = some (.cells #[.int .i64 a, .int .i64 b, .int .i64 c, .int .i64 x] 60 (0, 0)) from hs7); have HG7 := Aside0.mk hg7; clear hs7 hg7))
              have HGA := Aside0.mk (grown_own (grown_own (grown_below (World.grownBy.refl wr (some B)) HB5.out) HG6.out HGN.out) HG7.out HGN.out)
              have hBn : B ≠ gn := Nat.ne_of_lt (Nat.lt_of_lt_of_le HMr.out.lt HGN.out)
              have HM7 := Aside0.mk (((HMr.out.below HB5.out).kept HG6.out (fun e => hBn (Option.some.inj e))).kept HG7.out (fun e => hBn (Option.some.inj e)))
              have c1s := HGA.out.cell c1r (fun e => hne.2.1 (Option.some.inj e).symm)
              have c2s := HGA.out.cell c2r (fun e => hne.2.2 (Option.some.inj e).symm)
              have BG7 := Aside0.mk (blk_grown BGr.out HGA.out (fun e => hne.1 (Option.some.inj e).symm))
              clear c1r c2r
              have z0 : w7.cell? ⟨gn, 0, none⟩ = some (.int .i64 a) := (blk_cell HBN7.out 0).trans rfl
              have z1 : w7.cell? ⟨gn, 1, none⟩ = some (.int .i64 b) := (blk_cell HBN7.out 1).trans rfl
              have z2 : w7.cell? ⟨gn, 2, none⟩ = some (.int .i64 c) := (blk_cell HBN7.out 2).trans rfl
              have z3 : w7.cell? ⟨gn, 3, none⟩ = some (.int .i64 x) := (blk_cell HBN7.out 3).trans rfl
              have y3 : w7.cell? ⟨bg, 3, none⟩ = some (.int .i64 g3) := (blk_cell BG7.out 3).trans rfl
              rcases impl_votesOn_2.one_cases S1 with ⟨q1, rfl⟩ | ⟨q1, q2, rfl⟩ | ⟨q1, q2, q, q3, rfl⟩
              · have q1b : decide (x ≤ g3) = false := decide_eq_false q1
                clear S1 q1
                go_quiet (fail)
                go_wp2
                go_roundg 0
                case measure => decide
                case rel => exact ⟨o2, n', rfl, rfl, H3, ⟨by decide⟩, ⟨grown_drewN (HG.out.trans HGA.out) _⟩, ⟨Nat.le_trans HN.out (Nat.add_le_add_left (Nat.mul_le_mul_right _ (by decide)) _)⟩, ⟨HM7.out.drewN _⟩⟩
              · have q1b : decide (x ≤ g3) = true := decide_eq_true q1
                have HT := Aside0.mk q2
                clear S1 q1 q2
                go_region_held3 (fun w' => (w'.cell? ⟨gn, 0, none⟩ = some (.int .i64 a) ∧ w'.cell? ⟨gn, 1, none⟩ = some (.int .i64 b) ∧ w'.cell? ⟨gn, 2, none⟩ = some (.int .i64 c) ∧ w'.cell? ⟨gn, 3, none⟩ = some (.int .i64 x)) ∧ w'.cell? ⟨bg, 3, none⟩ = some (.int .i64 g3)) (first | exact ⟨⟨z0, z1, z2, z3⟩, y3⟩ | exact ⟨⟨z0b, z1b, z2b, z3b⟩, yb⟩) (first | (go_at_call 61; refine (impl_tally_isOrdered.calls a b c x false _ HT.out).mono ?_; rintro e w8 ⟨rfl, hb8⟩; have z0b := (hb8.cell (World.block_lt_of_cell? w7 _ z0)).trans z0; have z1b := (hb8.cell (World.block_lt_of_cell? w7 _ z1)).trans z1; have z2b := (hb8.cell (World.block_lt_of_cell? w7 _ z2)).trans z2; have z3b := (hb8.cell (World.block_lt_of_cell? w7 _ z3)).trans z3; have yb := (hb8.cell (World.block_lt_of_cell? w7 _ y3)).trans y3; have HB8 := Aside0.mk hb8; clear hb8))
                go_wp2
                go_roundg 0
                case measure => decide
                case rel => exact ⟨o2, n', rfl, rfl, H3, ⟨by decide⟩, ⟨HG.out.trans (grown_below (grown_drew HGA.out) HB8.out)⟩, ⟨Nat.le_trans HN.out (Nat.add_le_add_left (Nat.mul_le_mul_right _ (by decide)) _)⟩, ⟨HM7.out.drew.below HB8.out⟩⟩
              · have q1b : decide (x ≤ g3) = true := decide_eq_true q1
                have HT := Aside0.mk q2
                have HQ := Aside0.mk q3
                clear q3
                clear S1 q1 q2
                go_region_held3 (fun w' => (w'.cell? ⟨gn, 0, none⟩ = some (.int .i64 a) ∧ w'.cell? ⟨gn, 1, none⟩ = some (.int .i64 b) ∧ w'.cell? ⟨gn, 2, none⟩ = some (.int .i64 c) ∧ w'.cell? ⟨gn, 3, none⟩ = some (.int .i64 x)) ∧ w'.cell? ⟨bg, 3, none⟩ = some (.int .i64 g3)) (first | exact ⟨⟨z0, z1, z2, z3⟩, y3⟩ | exact ⟨⟨z0b, z1b, z2b, z3b⟩, yb⟩) (first | (go_at_call 61; refine (impl_tally_isOrdered.calls a b c x true _ HT.out).mono ?_; rintro e w8 ⟨rfl, hb8⟩; have z0b := (hb8.cell (World.block_lt_of_cell? w7 _ z0)).trans z0; have z1b := (hb8.cell (World.block_lt_of_cell? w7 _ z1)).trans z1; have z2b := (hb8.cell (World.block_lt_of_cell? w7 _ z2)).trans z2; have z3b := (hb8.cell (World.block_lt_of_cell? w7 _ z3)).trans z3; have yb := (hb8.cell (World.block_lt_of_cell? w7 _ y3)).trans y3; have HB8 := Aside0.mk hb8; clear hb8))
                have BN8 := Aside0.mk (blk_below (blk_drew HBN7.out) HB8.out)
                have BG8 := Aside0.mk (blk_below (blk_drew BG7.out) HB8.out)
                have HM8 := Aside0.mk (HM7.out.drew.below HB8.out)
                have c1t : w8.cell? ⟨bk, 0, none⟩ = some (.map (some B)) := (HB8.out.cell (World.block_lt_of_cell? w7 _ c1s)).trans c1s
                have c2t : w8.cell? ⟨bf, 0, none⟩ = some (.func (.func 83) #[] #[.pointer (some ⟨bg, 0, none⟩), .pointer (some ⟨bk, 0, none⟩), .pointer (some ⟨bf, 0, none⟩)]) := (HB8.out.cell (World.block_lt_of_cell? w7 _ c2s)).trans c2s
                clear c1s c2s z0 z1 z2 z3 z0b z1b z2b z3b yb y3
                go_wp2_with (first | ((with_reducible refine gate_dst (N := 43) rfl ?_); refine zLoadBox4 (t := 60) (e := 3) rfl rfl Try.underlying60 (by kernel_rfl) rfl BN8.out ?_) | (go_at_fn 83; refine (ih a b c x q n' _ wa wb wc wx BG8.out c1t c2t HM8.out (HY.out n' 0 (by decide) HN.out) HQ.out).mono ?_; rintro e w9 ⟨rfl, hg9, n9, hn9, hM9⟩; have HG9 := Aside0.mk hg9; have HN9 := Aside0.mk hn9; have HM9 := Aside0.mk hM9; clear hg9 hn9 hM9))
                go_roundg 0
                case measure => decide
                case rel => exact ⟨wrap64 (out + q), n9, rfl, rfl, H3, ⟨by decide⟩, ⟨(HG.out.trans (grown_below (grown_drew HGA.out) HB8.out)).trans HG9.out⟩, ⟨HZ.out n' n9 0 (by decide) HN.out HN9.out⟩, ⟨HM9.out⟩⟩
            · have e21 : u21 = .int .i64 2 := h21
              subst e21
              clear h21
              obtain ⟨o2, S0, H2⟩ := impl_votesOn_2.sum_cases HA.out
              obtain ⟨x, hx⟩ : ∃ x, x = wrap64 (c + 1) := ⟨_, rfl⟩
              have S1 : impl_votesOn_2.one (impl_votesOn_2.g g0 g1 g2 g3 k) x g2 a b x d out = some o2 := by rw [hx]; exact S0
              have HX1 := Aside0.mk hx
              have wx : (Lit.int .i64 x).wf = true := by rw [hx]; exact wrap64_wf _
              clear S0 hx HA
              have H3 := Aside0.mk H2
              clear H2
              go_upto_region 10 with (first | ((with_reducible refine gate_dst (N := 9) rfl ?_); refine box_event ?hg (N := 9) ?hd (cs := #[.int .i64 0, .int .i64 0, .int .i64 0, .int .i64 0]) (t := 60) ?hr ?_; (case hd => rfl); (case hg => rfl); (case hr => first | (go_simp; done) | (go_simp; rfl)); intro gn hgn w5 hbox hb; have HBN := Aside0.mk hbox; have HGN := Aside0.mk (Nat.le_of_eq hgn.symm : wr.heap.size ≤ gn); have HB5 := Aside0.mk hb; clear hgn hb hbox) | ((with_reducible refine gate_dst (N := 24) rfl ?_); refine zLoadBox4 (t := 60) (e := 3) rfl rfl Try.underlying60 (by kernel_rfl) rfl BNr.out ?_) | ((with_reducible refine gate_store (t := 60) (p := 9) rfl ?_); refine zStoreBox4 (t := 60) rfl rfl rfl (by kernel_rfl) rfl rfl HBN.out ?_; intro w6 hs6 hg6; have HBN6 := Aside0.mk hs6; have HG6 := Aside0.mk hg6; clear hs6 hg6) | ((with_reducible refine gate_dst (N := 26) rfl ?_); refine zIndexAt (i := 2) (n := 4) (t := 60) (e := 3) rfl rfl Try.underlying60 (by kernel_rfl) rfl rfl rfl (by decide) ?_) | ((with_reducible refine gate_dst (N := 27) rfl ?_); refine zLoadAt (t := 3) (k := .i64) (x := c) rfl rfl Try.underlying3 rfl HBN6.out rfl ?_) | ((with_reducible refine gate_dst (N := 29) rfl ?_); refine zIndexAt (i := 2) (n := 4) (t := 60) (e := 3) rfl rfl Try.underlying60 (by kernel_rfl) rfl rfl rfl (by decide) ?_) | ((with_reducible refine gate_store (t := 3) (p := 29) rfl ?_); refine zStoreAt (t := 3) (k := .i64) (x := x) rfl rfl rfl (by kernel_rfl) rfl (by rw [HX1.out]; first | rfl | (rw [← i64_w]; rfl) | (go_simp; done)) HBN6.out (show 2 < 4 by decide) ?_; intro w7 hs7 hg7; have HBN7 := Aside0.mk (show w7.heap[gn]? = some (.cells #[.int .i64 a, .int .i64 b, .int .i64 x, .int .i64 d] 60 (0, 0)) from hs7); have HG7 := Aside0.mk hg7; clear hs7 hg7))
              have HGA := Aside0.mk (grown_own (grown_own (grown_below (World.grownBy.refl wr (some B)) HB5.out) HG6.out HGN.out) HG7.out HGN.out)
              have hBn : B ≠ gn := Nat.ne_of_lt (Nat.lt_of_lt_of_le HMr.out.lt HGN.out)
              have HM7 := Aside0.mk (((HMr.out.below HB5.out).kept HG6.out (fun e => hBn (Option.some.inj e))).kept HG7.out (fun e => hBn (Option.some.inj e)))
              have c1s := HGA.out.cell c1r (fun e => hne.2.1 (Option.some.inj e).symm)
              have c2s := HGA.out.cell c2r (fun e => hne.2.2 (Option.some.inj e).symm)
              have BG7 := Aside0.mk (blk_grown BGr.out HGA.out (fun e => hne.1 (Option.some.inj e).symm))
              clear c1r c2r
              have z0 : w7.cell? ⟨gn, 0, none⟩ = some (.int .i64 a) := (blk_cell HBN7.out 0).trans rfl
              have z1 : w7.cell? ⟨gn, 1, none⟩ = some (.int .i64 b) := (blk_cell HBN7.out 1).trans rfl
              have z2 : w7.cell? ⟨gn, 2, none⟩ = some (.int .i64 x) := (blk_cell HBN7.out 2).trans rfl
              have z3 : w7.cell? ⟨gn, 3, none⟩ = some (.int .i64 d) := (blk_cell HBN7.out 3).trans rfl
              have y2 : w7.cell? ⟨bg, 2, none⟩ = some (.int .i64 g2) := (blk_cell BG7.out 2).trans rfl
              rcases impl_votesOn_2.one_cases S1 with ⟨q1, rfl⟩ | ⟨q1, q2, rfl⟩ | ⟨q1, q2, q, q3, rfl⟩
              · have q1b : decide (x ≤ g2) = false := decide_eq_false q1
                clear S1 q1
                go_quiet (fail)
                go_wp2
                go_roundg 1
                case measure => decide
                case rel => exact ⟨o2, n', rfl, rfl, H3, ⟨by decide⟩, ⟨grown_drewN (HG.out.trans HGA.out) _⟩, ⟨Nat.le_trans HN.out (Nat.add_le_add_left (Nat.mul_le_mul_right _ (by decide)) _)⟩, ⟨HM7.out.drewN _⟩⟩
              · have q1b : decide (x ≤ g2) = true := decide_eq_true q1
                have HT := Aside0.mk q2
                clear S1 q1 q2
                go_region_held3 (fun w' => (w'.cell? ⟨gn, 0, none⟩ = some (.int .i64 a) ∧ w'.cell? ⟨gn, 1, none⟩ = some (.int .i64 b) ∧ w'.cell? ⟨gn, 2, none⟩ = some (.int .i64 x) ∧ w'.cell? ⟨gn, 3, none⟩ = some (.int .i64 d)) ∧ w'.cell? ⟨bg, 2, none⟩ = some (.int .i64 g2)) (first | exact ⟨⟨z0, z1, z2, z3⟩, y2⟩ | exact ⟨⟨z0b, z1b, z2b, z3b⟩, yb⟩) (first | (go_at_call 61; refine (impl_tally_isOrdered.calls a b x d false _ HT.out).mono ?_; rintro e w8 ⟨rfl, hb8⟩; have z0b := (hb8.cell (World.block_lt_of_cell? w7 _ z0)).trans z0; have z1b := (hb8.cell (World.block_lt_of_cell? w7 _ z1)).trans z1; have z2b := (hb8.cell (World.block_lt_of_cell? w7 _ z2)).trans z2; have z3b := (hb8.cell (World.block_lt_of_cell? w7 _ z3)).trans z3; have yb := (hb8.cell (World.block_lt_of_cell? w7 _ y2)).trans y2; have HB8 := Aside0.mk hb8; clear hb8))
                go_wp2
                go_roundg 1
                case measure => decide
                case rel => exact ⟨o2, n', rfl, rfl, H3, ⟨by decide⟩, ⟨HG.out.trans (grown_below (grown_drew HGA.out) HB8.out)⟩, ⟨Nat.le_trans HN.out (Nat.add_le_add_left (Nat.mul_le_mul_right _ (by decide)) _)⟩, ⟨HM7.out.drew.below HB8.out⟩⟩
              · have q1b : decide (x ≤ g2) = true := decide_eq_true q1
                have HT := Aside0.mk q2
                have HQ := Aside0.mk q3
                clear q3
                clear S1 q1 q2
                go_region_held3 (fun w' => (w'.cell? ⟨gn, 0, none⟩ = some (.int .i64 a) ∧ w'.cell? ⟨gn, 1, none⟩ = some (.int .i64 b) ∧ w'.cell? ⟨gn, 2, none⟩ = some (.int .i64 x) ∧ w'.cell? ⟨gn, 3, none⟩ = some (.int .i64 d)) ∧ w'.cell? ⟨bg, 2, none⟩ = some (.int .i64 g2)) (first | exact ⟨⟨z0, z1, z2, z3⟩, y2⟩ | exact ⟨⟨z0b, z1b, z2b, z3b⟩, yb⟩) (first | (go_at_call 61; refine (impl_tally_isOrdered.calls a b x d true _ HT.out).mono ?_; rintro e w8 ⟨rfl, hb8⟩; have z0b := (hb8.cell (World.block_lt_of_cell? w7 _ z0)).trans z0; have z1b := (hb8.cell (World.block_lt_of_cell? w7 _ z1)).trans z1; have z2b := (hb8.cell (World.block_lt_of_cell? w7 _ z2)).trans z2; have z3b := (hb8.cell (World.block_lt_of_cell? w7 _ z3)).trans z3; have yb := (hb8.cell (World.block_lt_of_cell? w7 _ y2)).trans y2; have HB8 := Aside0.mk hb8; clear hb8))
                have BN8 := Aside0.mk (blk_below (blk_drew HBN7.out) HB8.out)
                have BG8 := Aside0.mk (blk_below (blk_drew BG7.out) HB8.out)
                have HM8 := Aside0.mk (HM7.out.drew.below HB8.out)
                have c1t : w8.cell? ⟨bk, 0, none⟩ = some (.map (some B)) := (HB8.out.cell (World.block_lt_of_cell? w7 _ c1s)).trans c1s
                have c2t : w8.cell? ⟨bf, 0, none⟩ = some (.func (.func 83) #[] #[.pointer (some ⟨bg, 0, none⟩), .pointer (some ⟨bk, 0, none⟩), .pointer (some ⟨bf, 0, none⟩)]) := (HB8.out.cell (World.block_lt_of_cell? w7 _ c2s)).trans c2s
                clear c1s c2s z0 z1 z2 z3 z0b z1b z2b z3b yb y2
                go_wp2_with (first | ((with_reducible refine gate_dst (N := 43) rfl ?_); refine zLoadBox4 (t := 60) (e := 3) rfl rfl Try.underlying60 (by kernel_rfl) rfl BN8.out ?_) | (go_at_fn 83; refine (ih a b x d q n' _ wa wb wx wd BG8.out c1t c2t HM8.out (HY.out n' 1 (by decide) HN.out) HQ.out).mono ?_; rintro e w9 ⟨rfl, hg9, n9, hn9, hM9⟩; have HG9 := Aside0.mk hg9; have HN9 := Aside0.mk hn9; have HM9 := Aside0.mk hM9; clear hg9 hn9 hM9))
                go_roundg 1
                case measure => decide
                case rel => exact ⟨wrap64 (out + q), n9, rfl, rfl, H3, ⟨by decide⟩, ⟨(HG.out.trans (grown_below (grown_drew HGA.out) HB8.out)).trans HG9.out⟩, ⟨HZ.out n' n9 1 (by decide) HN.out HN9.out⟩, ⟨HM9.out⟩⟩
            · have e21 : u21 = .int .i64 1 := h21
              subst e21
              clear h21
              obtain ⟨o2, S0, H2⟩ := impl_votesOn_2.sum_cases HA.out
              obtain ⟨x, hx⟩ : ∃ x, x = wrap64 (b + 1) := ⟨_, rfl⟩
              have S1 : impl_votesOn_2.one (impl_votesOn_2.g g0 g1 g2 g3 k) x g1 a x c d out = some o2 := by rw [hx]; exact S0
              have HX1 := Aside0.mk hx
              have wx : (Lit.int .i64 x).wf = true := by rw [hx]; exact wrap64_wf _
              clear S0 hx HA
              have H3 := Aside0.mk H2
              clear H2
              go_upto_region 10 with (first | ((with_reducible refine gate_dst (N := 9) rfl ?_); refine box_event ?hg (N := 9) ?hd (cs := #[.int .i64 0, .int .i64 0, .int .i64 0, .int .i64 0]) (t := 60) ?hr ?_; (case hd => rfl); (case hg => rfl); (case hr => first | (go_simp; done) | (go_simp; rfl)); intro gn hgn w5 hbox hb; have HBN := Aside0.mk hbox; have HGN := Aside0.mk (Nat.le_of_eq hgn.symm : wr.heap.size ≤ gn); have HB5 := Aside0.mk hb; clear hgn hb hbox) | ((with_reducible refine gate_dst (N := 24) rfl ?_); refine zLoadBox4 (t := 60) (e := 3) rfl rfl Try.underlying60 (by kernel_rfl) rfl BNr.out ?_) | ((with_reducible refine gate_store (t := 60) (p := 9) rfl ?_); refine zStoreBox4 (t := 60) rfl rfl rfl (by kernel_rfl) rfl rfl HBN.out ?_; intro w6 hs6 hg6; have HBN6 := Aside0.mk hs6; have HG6 := Aside0.mk hg6; clear hs6 hg6) | ((with_reducible refine gate_dst (N := 26) rfl ?_); refine zIndexAt (i := 1) (n := 4) (t := 60) (e := 3) rfl rfl Try.underlying60 (by kernel_rfl) rfl rfl rfl (by decide) ?_) | ((with_reducible refine gate_dst (N := 27) rfl ?_); refine zLoadAt (t := 3) (k := .i64) (x := b) rfl rfl Try.underlying3 rfl HBN6.out rfl ?_) | ((with_reducible refine gate_dst (N := 29) rfl ?_); refine zIndexAt (i := 1) (n := 4) (t := 60) (e := 3) rfl rfl Try.underlying60 (by kernel_rfl) rfl rfl rfl (by decide) ?_) | ((with_reducible refine gate_store (t := 3) (p := 29) rfl ?_); refine zStoreAt (t := 3) (k := .i64) (x := x) rfl rfl rfl (by kernel_rfl) rfl (by rw [HX1.out]; first | rfl | (rw [← i64_w]; rfl) | (go_simp; done)) HBN6.out (show 1 < 4 by decide) ?_; intro w7 hs7 hg7; have HBN7 := Aside0.mk (show w7.heap[gn]? = some (.cells #[.int .i64 a, .int .i64 x, .int .i64 c, .int .i64 d] 60 (0, 0)) from hs7); have HG7 := Aside0.mk hg7; clear hs7 hg7))
              have HGA := Aside0.mk (grown_own (grown_own (grown_below (World.grownBy.refl wr (some B)) HB5.out) HG6.out HGN.out) HG7.out HGN.out)
              have hBn : B ≠ gn := Nat.ne_of_lt (Nat.lt_of_lt_of_le HMr.out.lt HGN.out)
              have HM7 := Aside0.mk (((HMr.out.below HB5.out).kept HG6.out (fun e => hBn (Option.some.inj e))).kept HG7.out (fun e => hBn (Option.some.inj e)))
              have c1s := HGA.out.cell c1r (fun e => hne.2.1 (Option.some.inj e).symm)
              have c2s := HGA.out.cell c2r (fun e => hne.2.2 (Option.some.inj e).symm)
              have BG7 := Aside0.mk (blk_grown BGr.out HGA.out (fun e => hne.1 (Option.some.inj e).symm))
              clear c1r c2r
              have z0 : w7.cell? ⟨gn, 0, none⟩ = some (.int .i64 a) := (blk_cell HBN7.out 0).trans rfl
              have z1 : w7.cell? ⟨gn, 1, none⟩ = some (.int .i64 x) := (blk_cell HBN7.out 1).trans rfl
              have z2 : w7.cell? ⟨gn, 2, none⟩ = some (.int .i64 c) := (blk_cell HBN7.out 2).trans rfl
              have z3 : w7.cell? ⟨gn, 3, none⟩ = some (.int .i64 d) := (blk_cell HBN7.out 3).trans rfl
              have y1 : w7.cell? ⟨bg, 1, none⟩ = some (.int .i64 g1) := (blk_cell BG7.out 1).trans rfl
              rcases impl_votesOn_2.one_cases S1 with ⟨q1, rfl⟩ | ⟨q1, q2, rfl⟩ | ⟨q1, q2, q, q3, rfl⟩
              · have q1b : decide (x ≤ g1) = false := decide_eq_false q1
                clear S1 q1
                go_quiet (fail)
                go_wp2
                go_roundg 2
                case measure => decide
                case rel => exact ⟨o2, n', rfl, rfl, H3, ⟨by decide⟩, ⟨grown_drewN (HG.out.trans HGA.out) _⟩, ⟨Nat.le_trans HN.out (Nat.add_le_add_left (Nat.mul_le_mul_right _ (by decide)) _)⟩, ⟨HM7.out.drewN _⟩⟩
              · have q1b : decide (x ≤ g1) = true := decide_eq_true q1
                have HT := Aside0.mk q2
                clear S1 q1 q2
                go_region_held3 (fun w' => (w'.cell? ⟨gn, 0, none⟩ = some (.int .i64 a) ∧ w'.cell? ⟨gn, 1, none⟩ = some (.int .i64 x) ∧ w'.cell? ⟨gn, 2, none⟩ = some (.int .i64 c) ∧ w'.cell? ⟨gn, 3, none⟩ = some (.int .i64 d)) ∧ w'.cell? ⟨bg, 1, none⟩ = some (.int .i64 g1)) (first | exact ⟨⟨z0, z1, z2, z3⟩, y1⟩ | exact ⟨⟨z0b, z1b, z2b, z3b⟩, yb⟩) (first | (go_at_call 61; refine (impl_tally_isOrdered.calls a x c d false _ HT.out).mono ?_; rintro e w8 ⟨rfl, hb8⟩; have z0b := (hb8.cell (World.block_lt_of_cell? w7 _ z0)).trans z0; have z1b := (hb8.cell (World.block_lt_of_cell? w7 _ z1)).trans z1; have z2b := (hb8.cell (World.block_lt_of_cell? w7 _ z2)).trans z2; have z3b := (hb8.cell (World.block_lt_of_cell? w7 _ z3)).trans z3; have yb := (hb8.cell (World.block_lt_of_cell? w7 _ y1)).trans y1; have HB8 := Aside0.mk hb8; clear hb8))
                go_wp2
                go_roundg 2
                case measure => decide
                case rel => exact ⟨o2, n', rfl, rfl, H3, ⟨by decide⟩, ⟨HG.out.trans (grown_below (grown_drew HGA.out) HB8.out)⟩, ⟨Nat.le_trans HN.out (Nat.add_le_add_left (Nat.mul_le_mul_right _ (by decide)) _)⟩, ⟨HM7.out.drew.below HB8.out⟩⟩
              · have q1b : decide (x ≤ g1) = true := decide_eq_true q1
                have HT := Aside0.mk q2
                have HQ := Aside0.mk q3
                clear q3
                clear S1 q1 q2
                go_region_held3 (fun w' => (w'.cell? ⟨gn, 0, none⟩ = some (.int .i64 a) ∧ w'.cell? ⟨gn, 1, none⟩ = some (.int .i64 x) ∧ w'.cell? ⟨gn, 2, none⟩ = some (.int .i64 c) ∧ w'.cell? ⟨gn, 3, none⟩ = some (.int .i64 d)) ∧ w'.cell? ⟨bg, 1, none⟩ = some (.int .i64 g1)) (first | exact ⟨⟨z0, z1, z2, z3⟩, y1⟩ | exact ⟨⟨z0b, z1b, z2b, z3b⟩, yb⟩) (first | (go_at_call 61; refine (impl_tally_isOrdered.calls a x c d true _ HT.out).mono ?_; rintro e w8 ⟨rfl, hb8⟩; have z0b := (hb8.cell (World.block_lt_of_cell? w7 _ z0)).trans z0; have z1b := (hb8.cell (World.block_lt_of_cell? w7 _ z1)).trans z1; have z2b := (hb8.cell (World.block_lt_of_cell? w7 _ z2)).trans z2; have z3b := (hb8.cell (World.block_lt_of_cell? w7 _ z3)).trans z3; have yb := (hb8.cell (World.block_lt_of_cell? w7 _ y1)).trans y1; have HB8 := Aside0.mk hb8; clear hb8))
                have BN8 := Aside0.mk (blk_below (blk_drew HBN7.out) HB8.out)
                have BG8 := Aside0.mk (blk_below (blk_drew BG7.out) HB8.out)
                have HM8 := Aside0.mk (HM7.out.drew.below HB8.out)
                have c1t : w8.cell? ⟨bk, 0, none⟩ = some (.map (some B)) := (HB8.out.cell (World.block_lt_of_cell? w7 _ c1s)).trans c1s
                have c2t : w8.cell? ⟨bf, 0, none⟩ = some (.func (.func 83) #[] #[.pointer (some ⟨bg, 0, none⟩), .pointer (some ⟨bk, 0, none⟩), .pointer (some ⟨bf, 0, none⟩)]) := (HB8.out.cell (World.block_lt_of_cell? w7 _ c2s)).trans c2s
                clear c1s c2s z0 z1 z2 z3 z0b z1b z2b z3b yb y1
                go_wp2_with (first | ((with_reducible refine gate_dst (N := 43) rfl ?_); refine zLoadBox4 (t := 60) (e := 3) rfl rfl Try.underlying60 (by kernel_rfl) rfl BN8.out ?_) | (go_at_fn 83; refine (ih a x c d q n' _ wa wx wc wd BG8.out c1t c2t HM8.out (HY.out n' 2 (by decide) HN.out) HQ.out).mono ?_; rintro e w9 ⟨rfl, hg9, n9, hn9, hM9⟩; have HG9 := Aside0.mk hg9; have HN9 := Aside0.mk hn9; have HM9 := Aside0.mk hM9; clear hg9 hn9 hM9))
                go_roundg 2
                case measure => decide
                case rel => exact ⟨wrap64 (out + q), n9, rfl, rfl, H3, ⟨by decide⟩, ⟨(HG.out.trans (grown_below (grown_drew HGA.out) HB8.out)).trans HG9.out⟩, ⟨HZ.out n' n9 2 (by decide) HN.out HN9.out⟩, ⟨HM9.out⟩⟩
            · have e21 : u21 = .int .i64 0 := h21
              subst e21
              clear h21
              obtain ⟨o2, S0, H2⟩ := impl_votesOn_2.sum_cases HA.out
              obtain ⟨x, hx⟩ : ∃ x, x = wrap64 (a + 1) := ⟨_, rfl⟩
              have S1 : impl_votesOn_2.one (impl_votesOn_2.g g0 g1 g2 g3 k) x g0 x b c d out = some o2 := by rw [hx]; exact S0
              have HX1 := Aside0.mk hx
              have wx : (Lit.int .i64 x).wf = true := by rw [hx]; exact wrap64_wf _
              clear S0 hx HA
              have H3 := Aside0.mk H2
              clear H2
              go_upto_region 10 with (first | ((with_reducible refine gate_dst (N := 9) rfl ?_); refine box_event ?hg (N := 9) ?hd (cs := #[.int .i64 0, .int .i64 0, .int .i64 0, .int .i64 0]) (t := 60) ?hr ?_; (case hd => rfl); (case hg => rfl); (case hr => first | (go_simp; done) | (go_simp; rfl)); intro gn hgn w5 hbox hb; have HBN := Aside0.mk hbox; have HGN := Aside0.mk (Nat.le_of_eq hgn.symm : wr.heap.size ≤ gn); have HB5 := Aside0.mk hb; clear hgn hb hbox) | ((with_reducible refine gate_dst (N := 24) rfl ?_); refine zLoadBox4 (t := 60) (e := 3) rfl rfl Try.underlying60 (by kernel_rfl) rfl BNr.out ?_) | ((with_reducible refine gate_store (t := 60) (p := 9) rfl ?_); refine zStoreBox4 (t := 60) rfl rfl rfl (by kernel_rfl) rfl rfl HBN.out ?_; intro w6 hs6 hg6; have HBN6 := Aside0.mk hs6; have HG6 := Aside0.mk hg6; clear hs6 hg6) | ((with_reducible refine gate_dst (N := 26) rfl ?_); refine zIndexAt (i := 0) (n := 4) (t := 60) (e := 3) rfl rfl Try.underlying60 (by kernel_rfl) rfl rfl rfl (by decide) ?_) | ((with_reducible refine gate_dst (N := 27) rfl ?_); refine zLoadAt (t := 3) (k := .i64) (x := a) rfl rfl Try.underlying3 rfl HBN6.out rfl ?_) | ((with_reducible refine gate_dst (N := 29) rfl ?_); refine zIndexAt (i := 0) (n := 4) (t := 60) (e := 3) rfl rfl Try.underlying60 (by kernel_rfl) rfl rfl rfl (by decide) ?_) | ((with_reducible refine gate_store (t := 3) (p := 29) rfl ?_); refine zStoreAt (t := 3) (k := .i64) (x := x) rfl rfl rfl (by kernel_rfl) rfl (by rw [HX1.out]; first | rfl | (rw [← i64_w]; rfl) | (go_simp; done)) HBN6.out (show 0 < 4 by decide) ?_; intro w7 hs7 hg7; have HBN7 := Aside0.mk (show w7.heap[gn]? = some (.cells #[.int .i64 x, .int .i64 b, .int .i64 c, .int .i64 d] 60 (0, 0)) from hs7); have HG7 := Aside0.mk hg7; clear hs7 hg7))
              have HGA := Aside0.mk (grown_own (grown_own (grown_below (World.grownBy.refl wr (some B)) HB5.out) HG6.out HGN.out) HG7.out HGN.out)
              have hBn : B ≠ gn := Nat.ne_of_lt (Nat.lt_of_lt_of_le HMr.out.lt HGN.out)
              have HM7 := Aside0.mk (((HMr.out.below HB5.out).kept HG6.out (fun e => hBn (Option.some.inj e))).kept HG7.out (fun e => hBn (Option.some.inj e)))
              have c1s := HGA.out.cell c1r (fun e => hne.2.1 (Option.some.inj e).symm)
              have c2s := HGA.out.cell c2r (fun e => hne.2.2 (Option.some.inj e).symm)
              have BG7 := Aside0.mk (blk_grown BGr.out HGA.out (fun e => hne.1 (Option.some.inj e).symm))
              clear c1r c2r
              have z0 : w7.cell? ⟨gn, 0, none⟩ = some (.int .i64 x) := (blk_cell HBN7.out 0).trans rfl
              have z1 : w7.cell? ⟨gn, 1, none⟩ = some (.int .i64 b) := (blk_cell HBN7.out 1).trans rfl
              have z2 : w7.cell? ⟨gn, 2, none⟩ = some (.int .i64 c) := (blk_cell HBN7.out 2).trans rfl
              have z3 : w7.cell? ⟨gn, 3, none⟩ = some (.int .i64 d) := (blk_cell HBN7.out 3).trans rfl
              have y0 : w7.cell? ⟨bg, 0, none⟩ = some (.int .i64 g0) := (blk_cell BG7.out 0).trans rfl
              rcases impl_votesOn_2.one_cases S1 with ⟨q1, rfl⟩ | ⟨q1, q2, rfl⟩ | ⟨q1, q2, q, q3, rfl⟩
              · have q1b : decide (x ≤ g0) = false := decide_eq_false q1
                clear S1 q1
                go_quiet (fail)
                go_wp2
                go_roundg 3
                case measure => decide
                case rel => exact ⟨o2, n', rfl, rfl, H3, ⟨by decide⟩, ⟨grown_drewN (HG.out.trans HGA.out) _⟩, ⟨Nat.le_trans HN.out (Nat.add_le_add_left (Nat.mul_le_mul_right _ (by decide)) _)⟩, ⟨HM7.out.drewN _⟩⟩
              · have q1b : decide (x ≤ g0) = true := decide_eq_true q1
                have HT := Aside0.mk q2
                clear S1 q1 q2
                go_region_held3 (fun w' => (w'.cell? ⟨gn, 0, none⟩ = some (.int .i64 x) ∧ w'.cell? ⟨gn, 1, none⟩ = some (.int .i64 b) ∧ w'.cell? ⟨gn, 2, none⟩ = some (.int .i64 c) ∧ w'.cell? ⟨gn, 3, none⟩ = some (.int .i64 d)) ∧ w'.cell? ⟨bg, 0, none⟩ = some (.int .i64 g0)) (first | exact ⟨⟨z0, z1, z2, z3⟩, y0⟩ | exact ⟨⟨z0b, z1b, z2b, z3b⟩, yb⟩) (first | (go_at_call 61; refine (impl_tally_isOrdered.calls x b c d false _ HT.out).mono ?_; rintro e w8 ⟨rfl, hb8⟩; have z0b := (hb8.cell (World.block_lt_of_cell? w7 _ z0)).trans z0; have z1b := (hb8.cell (World.block_lt_of_cell? w7 _ z1)).trans z1; have z2b := (hb8.cell (World.block_lt_of_cell? w7 _ z2)).trans z2; have z3b := (hb8.cell (World.block_lt_of_cell? w7 _ z3)).trans z3; have yb := (hb8.cell (World.block_lt_of_cell? w7 _ y0)).trans y0; have HB8 := Aside0.mk hb8; clear hb8))
                go_wp2
                go_roundg 3
                case measure => decide
                case rel => exact ⟨o2, n', rfl, rfl, H3, ⟨by decide⟩, ⟨HG.out.trans (grown_below (grown_drew HGA.out) HB8.out)⟩, ⟨Nat.le_trans HN.out (Nat.add_le_add_left (Nat.mul_le_mul_right _ (by decide)) _)⟩, ⟨HM7.out.drew.below HB8.out⟩⟩
              · have q1b : decide (x ≤ g0) = true := decide_eq_true q1
                have HT := Aside0.mk q2
                have HQ := Aside0.mk q3
                clear q3
                clear S1 q1 q2
                go_region_held3 (fun w' => (w'.cell? ⟨gn, 0, none⟩ = some (.int .i64 x) ∧ w'.cell? ⟨gn, 1, none⟩ = some (.int .i64 b) ∧ w'.cell? ⟨gn, 2, none⟩ = some (.int .i64 c) ∧ w'.cell? ⟨gn, 3, none⟩ = some (.int .i64 d)) ∧ w'.cell? ⟨bg, 0, none⟩ = some (.int .i64 g0)) (first | exact ⟨⟨z0, z1, z2, z3⟩, y0⟩ | exact ⟨⟨z0b, z1b, z2b, z3b⟩, yb⟩) (first | (go_at_call 61; refine (impl_tally_isOrdered.calls x b c d true _ HT.out).mono ?_; rintro e w8 ⟨rfl, hb8⟩; have z0b := (hb8.cell (World.block_lt_of_cell? w7 _ z0)).trans z0; have z1b := (hb8.cell (World.block_lt_of_cell? w7 _ z1)).trans z1; have z2b := (hb8.cell (World.block_lt_of_cell? w7 _ z2)).trans z2; have z3b := (hb8.cell (World.block_lt_of_cell? w7 _ z3)).trans z3; have yb := (hb8.cell (World.block_lt_of_cell? w7 _ y0)).trans y0; have HB8 := Aside0.mk hb8; clear hb8))
                have BN8 := Aside0.mk (blk_below (blk_drew HBN7.out) HB8.out)
                have BG8 := Aside0.mk (blk_below (blk_drew BG7.out) HB8.out)
                have HM8 := Aside0.mk (HM7.out.drew.below HB8.out)
                have c1t : w8.cell? ⟨bk, 0, none⟩ = some (.map (some B)) := (HB8.out.cell (World.block_lt_of_cell? w7 _ c1s)).trans c1s
                have c2t : w8.cell? ⟨bf, 0, none⟩ = some (.func (.func 83) #[] #[.pointer (some ⟨bg, 0, none⟩), .pointer (some ⟨bk, 0, none⟩), .pointer (some ⟨bf, 0, none⟩)]) := (HB8.out.cell (World.block_lt_of_cell? w7 _ c2s)).trans c2s
                clear c1s c2s z0 z1 z2 z3 z0b z1b z2b z3b yb y0
                go_wp2_with (first | ((with_reducible refine gate_dst (N := 43) rfl ?_); refine zLoadBox4 (t := 60) (e := 3) rfl rfl Try.underlying60 (by kernel_rfl) rfl BN8.out ?_) | (go_at_fn 83; refine (ih x b c d q n' _ wx wb wc wd BG8.out c1t c2t HM8.out (HY.out n' 3 (by decide) HN.out) HQ.out).mono ?_; rintro e w9 ⟨rfl, hg9, n9, hn9, hM9⟩; have HG9 := Aside0.mk hg9; have HN9 := Aside0.mk hn9; have HM9 := Aside0.mk hM9; clear hg9 hn9 hM9))
                go_roundg 3
                case measure => decide
                case rel => exact ⟨wrap64 (out + q), n9, rfl, rfl, H3, ⟨by decide⟩, ⟨(HG.out.trans (grown_below (grown_drew HGA.out) HB8.out)).trans HG9.out⟩, ⟨HZ.out n' n9 3 (by decide) HN.out HN9.out⟩, ⟨HM9.out⟩⟩
            · exact absurd hm (by omega)
/-- What the function value that impl.votesOn hands back leans on. -/
def impl_votesOn_2.Env (w : World) (bg bk bf B : Nat) (g0 g1 g2 g3 : Int) (n : Nat) : Prop := (B ≠ bg ∧ B ≠ bk ∧ B ≠ bf) ∧ w.heap[bg]? = some (.cells #[.int .i64 g0, .int .i64 g1, .int .i64 g2, .int .i64 g3] 60 (0, 0)) ∧ w.cell? ⟨bk, 0, none⟩ = some (.map (some B)) ∧ w.cell? ⟨bf, 0, none⟩ = some (.func (.func 83) #[] #[.pointer (some ⟨bg, 0, none⟩), .pointer (some ⟨bk, 0, none⟩), .pointer (some ⟨bf, 0, none⟩)]) ∧ Memo Try.prog 60 3 w B n (impl_votesOn_2.ok g0 g1 g2 g3)
section
variable {w w' : World} {bg bk bf B n : Nat} {g0 g1 g2 g3 : Int}
theorem impl_votesOn_2.Env.lt (h : impl_votesOn_2.Env w bg bk bf B g0 g1 g2 g3 n) : bg < w.heap.size ∧ bk < w.heap.size ∧ bf < w.heap.size ∧ B < w.heap.size := by
  obtain ⟨_, h1, h2, h3, h4⟩ := h
  exact ⟨blk_lt h1, World.block_lt_of_cell? w _ h2, World.block_lt_of_cell? w _ h3, h4.lt⟩
theorem impl_votesOn_2.Env.below (h : impl_votesOn_2.Env w bg bk bf B g0 g1 g2 g3 n) (hb : Below w.heap.size w w') : impl_votesOn_2.Env w' bg bk bf B g0 g1 g2 g3 n := by
  obtain ⟨h0, h1, h2, h3, h4⟩ := h
  exact ⟨h0, blk_below h1 hb, (hb.cell (World.block_lt_of_cell? w _ h2)).trans h2, (hb.cell (World.block_lt_of_cell? w _ h3)).trans h3, h4.below hb⟩
theorem impl_votesOn_2.Env.drewN (h : impl_votesOn_2.Env w bg bk bf B g0 g1 g2 g3 n) (m : Nat) : impl_votesOn_2.Env (w.drewN m) bg bk bf B g0 g1 g2 g3 n := h
theorem impl_votesOn_2.Env.drew (h : impl_votesOn_2.Env w bg bk bf B g0 g1 g2 g3 n) : impl_votesOn_2.Env w.drew bg bk bf B g0 g1 g2 g3 n := h
theorem impl_votesOn_2.Env.grown {j : Nat} (h : impl_votesOn_2.Env w bg bk bf B g0 g1 g2 g3 n) (hg : w.grownBy w' (some j)) (hj : j ≠ bg ∧ j ≠ bk ∧ j ≠ bf ∧ j ≠ B) : impl_votesOn_2.Env w' bg bk bf B g0 g1 g2 g3 n := by
  obtain ⟨h0, h1, h2, h3, h4⟩ := h
  have e : ∀ {x : Nat}, j ≠ x → some x ≠ some j := fun hx e => hx (Option.some.inj e).symm
  exact ⟨h0, blk_grown h1 hg (e hj.1), hg.cell h2 (e hj.2.1), hg.cell h3 (e hj.2.2.1), h4.kept hg (e hj.2.2.2)⟩
theorem impl_votesOn_2.Env.grownO {row : Option Nat} (h : impl_votesOn_2.Env w bg bk bf B g0 g1 g2 g3 n) (hg : w.grownBy w' row) (hj : ∀ j, row = some j → j ≠ bg ∧ j ≠ bk ∧ j ≠ bf ∧ j ≠ B) : impl_votesOn_2.Env w' bg bk bf B g0 g1 g2 g3 n := by
  obtain ⟨h0, h1, h2, h3, h4⟩ := h
  have e : ∀ {x : Nat}, (∀ j, row = some j → j ≠ x) → some x ≠ row := fun hx e => hx _ e.symm rfl
  exact ⟨h0, blk_grown h1 hg (e fun j hr => (hj j hr).1), hg.cell h2 (e fun j hr => (hj j hr).2.1), hg.cell h3 (e fun j hr => (hj j hr).2.2.1), h4.kept hg (e fun j hr => (hj j hr).2.2.2)⟩
theorem impl_votesOn_2.Env.set {j i : Nat} (h : impl_votesOn_2.Env w bg bk bf B g0 g1 g2 g3 n) (hj : j ≠ bg ∧ j ≠ bk ∧ j ≠ bf ∧ j ≠ B) (v : Value) : impl_votesOn_2.Env (w.setCell ⟨j, i, none⟩ v) bg bk bf B g0 g1 g2 g3 n :=
  h.grown (j := j) ⟨rfl, rfl, rfl, by simp [World.setCell], fun x _ hx => Below.heap_setCell w ⟨j, i, none⟩ v x (fun e => hx (by rw [e]))⟩ hj
theorem impl_votesOn_2.Env.off (h : impl_votesOn_2.Env w bg bk bf B g0 g1 g2 g3 n) {j : Nat} (hj : w.heap.size ≤ j) : j ≠ bg ∧ j ≠ bk ∧ j ≠ bf ∧ j ≠ B := by
  obtain ⟨h1, h2, h3, h4⟩ := h.lt
  omega
theorem impl_votesOn_2.Env.call (h : impl_votesOn_2.Env w bg bk bf B g0 g1 g2 g3 n) (k : Nat) (hn : n + 8 ^ k ≤ maxLen) (a b c d r : Int) (wa : (Lit.int .i64 a).wf = true) (wb : (Lit.int .i64 b).wf = true) (wc : (Lit.int .i64 c).wf = true) (wd : (Lit.int .i64 d).wf = true) (hr : impl_votesOn_2.g g0 g1 g2 g3 k a b c d = some r) :
    Calls Try.prog 83 #[.agg #[.int .i64 a, .int .i64 b, .int .i64 c, .int .i64 d], .pointer (some ⟨bg, 0, none⟩), .pointer (some ⟨bk, 0, none⟩), .pointer (some ⟨bf, 0, none⟩)] w fun e w' => e = .returned (.int .i64 r) ∧ w.grownBy w' (some B) ∧ ∃ n', n' < n + 8 ^ k ∧ impl_votesOn_2.Env w' bg bk bf B g0 g1 g2 g3 n' := by
  obtain ⟨h0, h1, h2, h3, h4⟩ := h
  refine (impl_votesOn_2.calls g0 g1 g2 g3 bg bk bf B h0 k a b c d r n w wa wb wc wd h1 h2 h3 h4 hn hr).mono ?_
  rintro e w' ⟨he, hg, n', hn', hM⟩
  have e : ∀ {x : Nat}, B ≠ x → some x ≠ some B := fun hx e => hx (Option.some.inj e).symm
  exact ⟨he, hg, n', hn', h0, blk_grown h1 hg (e h0.1), hg.cell h2 (e h0.2.1), hg.cell h3 (e h0.2.2), hM⟩
end
theorem cell_set_far {w : World} {g j : Nat} {p : Addr} (h : g ≠ p.block) (v : Value) : (w.setCell p v).cell? ⟨g, j, none⟩ = w.cell? ⟨g, j, none⟩ := World.cell?_of_block (Below.heap_setCell w p v g h)
theorem cell_set4 {w : World} {g j g' i0 i1 i2 i3 : Nat} {v v0 v1 v2 v3 : Value} (h : g ≠ g') (hc : w.cell? ⟨g, j, none⟩ = some v) : ((((w.setCell ⟨g', i0, none⟩ v0).setCell ⟨g', i1, none⟩ v1).setCell ⟨g', i2, none⟩ v2).setCell ⟨g', i3, none⟩ v3).cell? ⟨g, j, none⟩ = some v := by
  rw [cell_set_far h, cell_set_far h, cell_set_far h, cell_set_far h]
  exact hc

/-! ### impl_votesOn: function 63 -/
set_option maxHeartbeats 2000000 in
set_option maxRecDepth 100000 in
theorem impl_votesOn.calls (g0 g1 g2 g3 : Int) (w : World) :
    Calls Try.prog 63 #[.agg #[.int .i64 g0, .int .i64 g1, .int .i64 g2, .int .i64 g3]] w fun e w' => ∃ bg bk bf B, e = .returned (.func (.func 83) #[] #[.pointer (some ⟨bg, 0, none⟩), .pointer (some ⟨bk, 0, none⟩), .pointer (some ⟨bf, 0, none⟩)]) ∧ impl_votesOn_2.Env w' bg bk bf B g0 g1 g2 g3 0 ∧ w.heap.size ≤ bg ∧ w.heap.size ≤ bk ∧ w.heap.size ≤ bf ∧ w.heap.size ≤ B ∧ Below w.heap.size w w' := by
  have hmf : ∀ (fn : Fn) (first cap : Array Value) (w : World), (Instr.makeFunc fn first cap).run Try.prog w = .ok (.func fn first cap) w := fun _ _ _ _ => rfl
  have hmm := @run_makeMap Try.prog
  have hsf := fun (x : Addr) (fn : Fn) (a b : Array Value) (W : World) => run_store Try.prog W x (.func fn a b) .plain rfl
  go_enter Try.func63, Try.ntmps63
  go_wp2
  go_ret
  refine ⟨w.heap.size, w.heap.size + 1 + 1, w.heap.size + 1 + 1 + 1, w.heap.size + 1, rfl, ⟨⟨by omega, by omega, by omega⟩, ?_, ?_, ?_, ?_⟩, by omega, by omega, by omega, by omega, by repeat (first | exact Below.refl _ _ | apply below_alloc)⟩
  · repeat (first | exact blk_new _ _ | refine blk_alloc ?_ _)
  iterate 2 (focus (repeat (first | exact cell_alloc_new _ _ _ (by simp) | refine cell_alloc_old ?_ _)))
  refine Memo.alloc (Memo.alloc ?_ _) _
  have hh := Memo.made (P := Try.prog) (K := 60) (E := 3) (ok := impl_votesOn_2.ok g0 g1 g2 g3) (w.alloc (Obj.cells #[Value.int IntKind.i64 g0, Value.int IntKind.i64 g1, Value.int IntKind.i64 g2, Value.int IntKind.i64 g3] 60))
  simpa only [World.size_alloc] using hh

/-! ### impl_step: function 64 -/
/-- One step: x is the number raised, y the goal's; behind it the numbers and in how many ways one goes on. -/
def impl_step.one (of : Int → Int → Int → Int → Option Int) (x y b0 b1 b2 b3 : Int) : Option (Int × Int × Int × Int × Int) := if x > y then some (b0, b1, b2, b3, 0) else (impl_tally_isOrdered.f b0 b1 b2 b3).bind fun t => (if t = true then ((of b0 b1 b2 b3).bind fun q => some (b0, b1, b2, b3, q)) else some (b0, b1, b2, b3, 0))
def impl_step.f (k : Nat) (g0 g1 g2 g3 a b c d i : Int) : Option (Int × Int × Int × Int × Int) :=
  if i = 0 then impl_step.one (impl_votesOn_2.g g0 g1 g2 g3 k) (wrap64 (a + 1)) g0 (wrap64 (a + 1)) b c d else
  if i = 1 then impl_step.one (impl_votesOn_2.g g0 g1 g2 g3 k) (wrap64 (b + 1)) g1 a (wrap64 (b + 1)) c d else
  if i = 2 then impl_step.one (impl_votesOn_2.g g0 g1 g2 g3 k) (wrap64 (c + 1)) g2 a b (wrap64 (c + 1)) d else
  if i = 3 then impl_step.one (impl_votesOn_2.g g0 g1 g2 g3 k) (wrap64 (d + 1)) g3 a b c (wrap64 (d + 1)) else none
theorem impl_step.one_mono {of of' : Int → Int → Int → Int → Option Int} (h : ∀ a b c d, LeO (of a b c d) (of' a b c d)) (x y b0 b1 b2 b3 : Int) : LeO (impl_step.one of x y b0 b1 b2 b3) (impl_step.one of' x y b0 b1 b2 b3) :=
  LeO.ite (LeO.refl _) (LeO.bind (LeO.refl _) fun _ => LeO.ite (LeO.bind (h _ _ _ _) fun _ => LeO.refl _) (LeO.refl _))
theorem impl_step.mono : ∀ g0 g1 g2 g3 a b c d i k, LeO (impl_step.f k g0 g1 g2 g3 a b c d i) (impl_step.f (k + 1) g0 g1 g2 g3 a b c d i) := fun g0 g1 g2 g3 a b c d i k => by
  have h := impl_votesOn_2.mono g0 g1 g2 g3 k
  unfold impl_step.f
  exact LeO.ite (impl_step.one_mono h _ _ _ _ _ _) (LeO.ite (impl_step.one_mono h _ _ _ _ _ _) (LeO.ite (impl_step.one_mono h _ _ _ _ _ _) (LeO.ite (impl_step.one_mono h _ _ _ _ _ _) (LeO.refl _))))
theorem impl_step.one_cases {of : Int → Int → Int → Int → Option Int} {x y b0 b1 b2 b3 r1 r2 r3 r4 r5 : Int} (h : impl_step.one of x y b0 b1 b2 b3 = some (r1, r2, r3, r4, r5)) : (r1 = b0 ∧ r2 = b1 ∧ r3 = b2 ∧ r4 = b3) ∧ ((x > y ∧ r5 = 0) ∨ (¬ x > y ∧ impl_tally_isOrdered.f b0 b1 b2 b3 = some false ∧ r5 = 0) ∨ (¬ x > y ∧ impl_tally_isOrdered.f b0 b1 b2 b3 = some true ∧ of b0 b1 b2 b3 = some r5)) := by
  unfold impl_step.one at h
  by_cases e : x > y
  · rw [if_pos e] at h
    simp only [Option.some.injEq, Prod.mk.injEq] at h
    obtain ⟨rfl, rfl, rfl, rfl, rfl⟩ := h
    exact ⟨⟨rfl, rfl, rfl, rfl⟩, .inl ⟨e, rfl⟩⟩
  · rw [if_neg e] at h
    obtain ⟨t, ht, h⟩ := Option.bind_eq_some_iff.mp h
    cases t with
    | true =>
      rw [if_pos rfl] at h
      obtain ⟨q, hq, h⟩ := Option.bind_eq_some_iff.mp h
      simp only [Option.some.injEq, Prod.mk.injEq] at h
      obtain ⟨rfl, rfl, rfl, rfl, rfl⟩ := h
      exact ⟨⟨rfl, rfl, rfl, rfl⟩, .inr (.inr ⟨e, ht, hq⟩)⟩
    | false =>
      rw [if_neg (by decide)] at h
      simp only [Option.some.injEq, Prod.mk.injEq] at h
      obtain ⟨rfl, rfl, rfl, rfl, rfl⟩ := h
      exact ⟨⟨rfl, rfl, rfl, rfl⟩, .inr (.inl ⟨e, ht, rfl⟩)⟩
set_option maxHeartbeats 4000000 in
set_option maxRecDepth 100000 in
theorem impl_step.at0 {bg bk bf B n : Nat} (g0 g1 g2 g3 a b c d x r1 r2 r3 r4 r5 : Int) (k : Nat) (w : World) (hE : impl_votesOn_2.Env w bg bk bf B g0 g1 g2 g3 n) (hn : n + 8 ^ k ≤ maxLen) (wa : (Lit.int .i64 a).wf = true) (wb : (Lit.int .i64 b).wf = true) (wc : (Lit.int .i64 c).wf = true) (wd : (Lit.int .i64 d).wf = true) (hx : x = wrap64 (a + 1)) (h : impl_step.one (impl_votesOn_2.g g0 g1 g2 g3 k) x g0 x b c d = some (r1, r2, r3, r4, r5)) :
    Calls Try.prog 64 #[.func (.func 83) #[] #[.pointer (some ⟨bg, 0, none⟩), .pointer (some ⟨bk, 0, none⟩), .pointer (some ⟨bf, 0, none⟩)], .agg #[.int .i64 g0, .int .i64 g1, .int .i64 g2, .int .i64 g3], .agg #[.int .i64 a, .int .i64 b, .int .i64 c, .int .i64 d], .int .i64 0] w fun e w' => e = .returned (.tuple #[.agg #[.int .i64 r1, .int .i64 r2, .int .i64 r3, .int .i64 r4], .int .i64 r5]) ∧ w.grownBy w' (some B) ∧ ∃ n', n' < n + 8 ^ k ∧ impl_votesOn_2.Env w' bg bk bf B g0 g1 g2 g3 n' := by
  have heg : ∀ (args : Array Value) (w : World), (callFunc 83 args).run Try.prog w = .ok (.enter 83 args) w := impl_votesOn_2.enters
  have HE0 := Aside0.mk hE
  have HP := Aside0.mk (Nat.lt_add_of_pos_right (Nat.pow_pos (by decide)) : n < n + 8 ^ k)
  have wx : (Lit.int .i64 x).wf = true := by rw [hx]; exact wrap64_wf _
  have HX1 := Aside0.mk hx
  clear hE hx
  obtain ⟨⟨e1, e2, e3, e4⟩, hc⟩ := impl_step.one_cases h
  rw [e1, e2, e3, e4]
  clear h e1 e2 e3 e4
  go_enter Try.func64, Try.ntmps64
  go_upto_region 2 with (first | ((with_reducible refine gate_dst (N := 5) rfl ?_); refine box_event ?hg (N := 5) ?hd (cs := #[.int .i64 g0, .int .i64 g1, .int .i64 g2, .int .i64 g3]) (t := 60) ?hr ?_; (case hd => rfl); (case hg => rfl); (case hr => first | (go_simp; done) | (go_simp; rfl)); intro gg hgg w1 hbox hb; have HBG := Aside0.mk hbox; have HB1 := Aside0.mk hb; have HE1 := Aside0.mk (HE0.out.below hb); clear hgg hb hbox) | ((with_reducible refine gate_dst (N := 6) rfl ?_); refine box_event ?hg (N := 6) ?hd (cs := #[.int .i64 a, .int .i64 b, .int .i64 c, .int .i64 d]) (t := 60) ?hr ?_; (case hd => rfl); (case hg => rfl); (case hr => first | (go_simp; done) | (go_simp; rfl)); intro gn hgn w2 hbox hb; have HBN := Aside0.mk hbox; have HGN := Aside0.mk (Nat.le_of_eq hgn.symm : w1.heap.size ≤ gn); have HB2 := Aside0.mk (below_step HB1.out hb); have HBG2 := Aside0.mk (blk_below HBG.out hb); have HE2 := Aside0.mk (HE1.out.below hb); clear hgn hb hbox) | ((with_reducible refine gate_dst (N := 8) rfl ?_); refine box_event ?hg (N := 8) ?hd (cs := #[.int .i64 0, .int .i64 0, .int .i64 0, .int .i64 0]) (t := 60) ?hr ?_; (case hd => rfl); (case hg => rfl); (case hr => first | (go_simp; done) | (go_simp; rfl)); intro gr hgr w3 hbox hb; have HBR := Aside0.mk hbox; have HGR := Aside0.mk (Nat.le_of_eq hgr.symm : w2.heap.size ≤ gr); have HB3 := Aside0.mk (below_step HB2.out hb); have HBG3 := Aside0.mk (blk_below HBG2.out hb); have HBN3 := Aside0.mk (blk_below HBN.out hb); have HE3 := Aside0.mk (HE2.out.below hb); clear hgr hb hbox) | ((with_reducible refine gate_dst (N := 11) rfl ?_); refine zIndexAt (i := 0) (n := 4) (t := 60) (e := 3) rfl rfl Try.underlying60 (by kernel_rfl) rfl rfl rfl (by decide) ?_) | ((with_reducible refine gate_dst (N := 12) rfl ?_); refine zLoadAt (t := 3) (k := .i64) (x := a) rfl rfl Try.underlying3 rfl HBN3.out rfl ?_) | ((with_reducible refine gate_dst (N := 14) rfl ?_); refine zIndexAt (i := 0) (n := 4) (t := 60) (e := 3) rfl rfl Try.underlying60 (by kernel_rfl) rfl rfl rfl (by decide) ?_) | ((with_reducible refine gate_store (t := 3) (p := 14) rfl ?_); refine zStoreAt (t := 3) (k := .i64) (x := x) rfl rfl rfl (by kernel_rfl) rfl (by rw [HX1.out]; first | rfl | (rw [← i64_w]; rfl) | (go_simp; done)) HBN3.out (show 0 < 4 by decide) ?_; intro w4 hs hg; have HBN4 := Aside0.mk (show w4.heap[gn]? = some (.cells #[.int .i64 x, .int .i64 b, .int .i64 c, .int .i64 d] 60 (0, 0)) from hs); have HG4 := Aside0.mk hg; clear hs hg))
  have HN := Aside0.mk (show gn ≠ gr ∧ gn ≠ gg ∧ gr ≠ gg from ⟨fun e => absurd (blk_lt HBN.out) (by rw [e]; have := HGR.out; omega), fun e => absurd (blk_lt HBG.out) (by have := HGN.out; omega), fun e => absurd (blk_lt HBG2.out) (by have := HGR.out; omega)⟩)
  have HWN := Aside0.mk (show w.heap.size ≤ gn ∧ w.heap.size ≤ gr from ⟨Nat.le_trans HB1.out.size HGN.out, Nat.le_trans HB2.out.size HGR.out⟩)
  have HGA := Aside0.mk (grown_own (grown_below (World.grownBy.refl w (some B)) HB3.out) HG4.out HWN.out.1)
  have HE4 := Aside0.mk (HE3.out.grown HG4.out (HE0.out.off HWN.out.1))
  have HBG4 := Aside0.mk (blk_grown HBG3.out HG4.out (fun e => HN.out.2.1 (Option.some.inj e).symm))
  have HBR4 := Aside0.mk (blk_grown HBR.out HG4.out (fun e => HN.out.1 (Option.some.inj e).symm))
  have z0 : w4.cell? ⟨gn, 0, none⟩ = some (.int .i64 x) := (blk_cell HBN4.out 0).trans rfl
  have z1 : w4.cell? ⟨gn, 1, none⟩ = some (.int .i64 b) := (blk_cell HBN4.out 1).trans rfl
  have z2 : w4.cell? ⟨gn, 2, none⟩ = some (.int .i64 c) := (blk_cell HBN4.out 2).trans rfl
  have z3 : w4.cell? ⟨gn, 3, none⟩ = some (.int .i64 d) := (blk_cell HBN4.out 3).trans rfl
  have y0 : w4.cell? ⟨gg, 0, none⟩ = some (.int .i64 g0) := (blk_cell HBG4.out 0).trans rfl
  rcases hc with ⟨q1, rfl⟩ | ⟨q1, q2, rfl⟩ | ⟨q1, q2, q3⟩
  · have q1b : decide (x > g0) = true := decide_eq_true q1
    have q1c : decide (g0 < x) = true := decide_eq_true q1
    clear q1
    go_quiet (fail)
    go_wp2_with (first | ((with_reducible refine gate_dst (N := 27) rfl ?_); refine zLoadBox4 (t := 60) (e := 3) rfl rfl Try.underlying60 (by kernel_rfl) rfl HBN4.out ?_) | ((with_reducible refine gate_store (t := 60) (p := 8) rfl ?_); refine zStoreBox4 (t := 60) rfl rfl rfl (by kernel_rfl) rfl rfl HBR4.out ?_; intro w6 hs hg; have HBR6 := Aside0.mk hs; have HG6 := Aside0.mk hg; clear hs hg))
    refine bodyPost_ret (results_ct rfl _ _ gr 60 #[.int .i64 x, .int .i64 b, .int .i64 c, .int .i64 d] (0, 0) _ rfl HBR6.out Try.underlying60 rfl (by kernel_rfl)) rfl ?_
    exact ⟨rfl, grown_own (grown_drewN HGA.out _) HG6.out HWN.out.2, n, HP.out, (HE4.out.drewN _).grown HG6.out (HE0.out.off HWN.out.2)⟩
  · have q1b : decide (x > g0) = false := decide_eq_false q1
    have q1c : decide (g0 < x) = false := decide_eq_false q1
    have HT := Aside0.mk q2
    clear q1 q2
    go_region_held3 (fun w' => (w'.cell? ⟨gn, 0, none⟩ = some (.int .i64 x) ∧ w'.cell? ⟨gn, 1, none⟩ = some (.int .i64 b) ∧ w'.cell? ⟨gn, 2, none⟩ = some (.int .i64 c) ∧ w'.cell? ⟨gn, 3, none⟩ = some (.int .i64 d)) ∧ w'.cell? ⟨gg, 0, none⟩ = some (.int .i64 g0)) (first | exact ⟨⟨z0, z1, z2, z3⟩, y0⟩ | exact ⟨⟨z0b, z1b, z2b, z3b⟩, yb⟩) (first | (go_at_call 61; refine (impl_tally_isOrdered.calls x b c d false _ HT.out).mono ?_; rintro e w5 ⟨rfl, hb5⟩; have z0b := (hb5.cell (World.block_lt_of_cell? w4 _ z0)).trans z0; have z1b := (hb5.cell (World.block_lt_of_cell? w4 _ z1)).trans z1; have z2b := (hb5.cell (World.block_lt_of_cell? w4 _ z2)).trans z2; have z3b := (hb5.cell (World.block_lt_of_cell? w4 _ z3)).trans z3; have yb := (hb5.cell (World.block_lt_of_cell? w4 _ y0)).trans y0; have HB5 := Aside0.mk hb5; clear hb5))
    have HBN5 := Aside0.mk (blk_below (blk_drew HBN4.out) HB5.out)
    have HBR5 := Aside0.mk (blk_below (blk_drew HBR4.out) HB5.out)
    have HE5 := Aside0.mk (HE4.out.drew.below HB5.out)
    have HGB := Aside0.mk (grown_below (grown_drew HGA.out) HB5.out)
    clear z0 z1 z2 z3 y0 yb
    clear z0b z1b z2b z3b
    go_wp2_with (first | ((with_reducible refine gate_dst (N := 27) rfl ?_); refine zLoadBox4 (t := 60) (e := 3) rfl rfl Try.underlying60 (by kernel_rfl) rfl HBN5.out ?_) | ((with_reducible refine gate_store (t := 60) (p := 8) rfl ?_); refine zStoreBox4 (t := 60) rfl rfl rfl (by kernel_rfl) rfl rfl HBR5.out ?_; intro w6 hs hg; have HBR6 := Aside0.mk hs; have HG6 := Aside0.mk hg; clear hs hg))
    refine bodyPost_ret (results_ct rfl _ _ gr 60 #[.int .i64 x, .int .i64 b, .int .i64 c, .int .i64 d] (0, 0) _ rfl HBR6.out Try.underlying60 rfl (by kernel_rfl)) rfl ?_
    exact ⟨rfl, grown_own HGB.out HG6.out HWN.out.2, n, HP.out, HE5.out.grown HG6.out (HE0.out.off HWN.out.2)⟩
  · have q1b : decide (x > g0) = false := decide_eq_false q1
    have q1c : decide (g0 < x) = false := decide_eq_false q1
    have HT := Aside0.mk q2
    have HQ := Aside0.mk q3
    clear q3
    clear q1 q2
    go_region_held3 (fun w' => (w'.cell? ⟨gn, 0, none⟩ = some (.int .i64 x) ∧ w'.cell? ⟨gn, 1, none⟩ = some (.int .i64 b) ∧ w'.cell? ⟨gn, 2, none⟩ = some (.int .i64 c) ∧ w'.cell? ⟨gn, 3, none⟩ = some (.int .i64 d)) ∧ w'.cell? ⟨gg, 0, none⟩ = some (.int .i64 g0)) (first | exact ⟨⟨z0, z1, z2, z3⟩, y0⟩ | exact ⟨⟨z0b, z1b, z2b, z3b⟩, yb⟩) (first | (go_at_call 61; refine (impl_tally_isOrdered.calls x b c d true _ HT.out).mono ?_; rintro e w5 ⟨rfl, hb5⟩; have z0b := (hb5.cell (World.block_lt_of_cell? w4 _ z0)).trans z0; have z1b := (hb5.cell (World.block_lt_of_cell? w4 _ z1)).trans z1; have z2b := (hb5.cell (World.block_lt_of_cell? w4 _ z2)).trans z2; have z3b := (hb5.cell (World.block_lt_of_cell? w4 _ z3)).trans z3; have yb := (hb5.cell (World.block_lt_of_cell? w4 _ y0)).trans y0; have HB5 := Aside0.mk hb5; clear hb5))
    have HBN5 := Aside0.mk (blk_below (blk_drew HBN4.out) HB5.out)
    have HBR5 := Aside0.mk (blk_below (blk_drew HBR4.out) HB5.out)
    have HE5 := Aside0.mk (HE4.out.drew.below HB5.out)
    have HGB := Aside0.mk (grown_below (grown_drew HGA.out) HB5.out)
    clear z0 z1 z2 z3 y0 yb
    go_upto_region 4 with (fail)
    clear HE1 HE2 HE3 HBG HBG2 HBG3 HBG4 HBN HBN3 HBN4 HBN5 HBR HBR4 HB1 HB2 HB3 HG4 HGA HE4 HB5 HT HX1
    have v0 : w5.cell? ⟨gr, 0, none⟩ = some (.int .i64 0) := (blk_cell HBR5.out 0).trans rfl
    have f0 : w5.frozen? ⟨gr, 0, none⟩ = false := blk_frozen HBR5.out 0
    have v1 : w5.cell? ⟨gr, 1, none⟩ = some (.int .i64 0) := (blk_cell HBR5.out 1).trans rfl
    have f1 : w5.frozen? ⟨gr, 1, none⟩ = false := blk_frozen HBR5.out 1
    have v2 : w5.cell? ⟨gr, 2, none⟩ = some (.int .i64 0) := (blk_cell HBR5.out 2).trans rfl
    have f2 : w5.frozen? ⟨gr, 2, none⟩ = false := blk_frozen HBR5.out 2
    have v3 : w5.cell? ⟨gr, 3, none⟩ = some (.int .i64 0) := (blk_cell HBR5.out 3).trans rfl
    have f3 : w5.frozen? ⟨gr, 3, none⟩ = false := blk_frozen HBR5.out 3
    go_region_held3 (fun w' => w'.cell? ⟨gn, 0, none⟩ = some (.int .i64 x) ∧ w'.cell? ⟨gn, 1, none⟩ = some (.int .i64 b) ∧ w'.cell? ⟨gn, 2, none⟩ = some (.int .i64 c) ∧ w'.cell? ⟨gn, 3, none⟩ = some (.int .i64 d)) (first | (with_reducible exact ⟨z0b, z1b, z2b, z3b⟩) | (with_reducible exact ⟨z0c, z1c, z2c, z3c⟩) | (with_reducible refine ⟨cell_set4 HN.out.1 z0c, cell_set4 HN.out.1 z1c, cell_set4 HN.out.1 z2c, cell_set4 HN.out.1 z3c⟩) | exact ⟨z0b, z1b, z2b, z3b⟩ | fail) (first | (go_at_fn 83; refine (impl_votesOn_2.Env.call (bg := bg) (bk := bk) (bf := bf) (B := B) (n := n) ?hE k hn x b c d r5 wx wb wc wd HQ.out).mono ?_; (case hE => exact (by first | exact HE5.out.drew | exact HE5.out | exact (((HE5.out.set (HE0.out.off HWN.out.2) _).set (HE0.out.off HWN.out.2) _).set (HE0.out.off HWN.out.2) _).set (HE0.out.off HWN.out.2) _ | exact ((((HE5.out.set (HE0.out.off HWN.out.2) _).set (HE0.out.off HWN.out.2) _).set (HE0.out.off HWN.out.2) _).set (HE0.out.off HWN.out.2) _).drew)); rintro e w7 ⟨rfl, hg7, n7, hn7, hE7⟩; have HG7 := Aside0.mk hg7; have HN7 := Aside0.mk hn7; have HE7 := Aside0.mk hE7; have z0c : w7.cell? ⟨gn, 0, none⟩ = some (.int .i64 x) := hg7.cell (by exact z0b) (fun e => (HE0.out.off HWN.out.1).2.2.2 (Option.some.inj e)); have z1c : w7.cell? ⟨gn, 1, none⟩ = some (.int .i64 b) := hg7.cell (by exact z1b) (fun e => (HE0.out.off HWN.out.1).2.2.2 (Option.some.inj e)); have z2c : w7.cell? ⟨gn, 2, none⟩ = some (.int .i64 c) := hg7.cell (by exact z2b) (fun e => (HE0.out.off HWN.out.1).2.2.2 (Option.some.inj e)); have z3c : w7.cell? ⟨gn, 3, none⟩ = some (.int .i64 d) := hg7.cell (by exact z3b) (fun e => (HE0.out.off HWN.out.1).2.2.2 (Option.some.inj e)); have BRc := Aside0.mk (show w7.heap[gr]? = some (.cells #[.int .i64 0, .int .i64 0, .int .i64 0, .int .i64 0] 60 (0, 0)) from (hg7.block gr (by exact blk_lt HBR5.out) (fun e => (HE0.out.off HWN.out.2).2.2.2 (Option.some.inj e))).trans (by exact HBR5.out)); have v0c : w7.cell? ⟨gr, 0, none⟩ = some (.int .i64 0) := (blk_cell BRc.out 0).trans rfl; have f0c := blk_frozen BRc.out 0; have v1c : w7.cell? ⟨gr, 1, none⟩ = some (.int .i64 0) := (blk_cell BRc.out 1).trans rfl; have f1c := blk_frozen BRc.out 1; have v2c : w7.cell? ⟨gr, 2, none⟩ = some (.int .i64 0) := (blk_cell BRc.out 2).trans rfl; have f2c := blk_frozen BRc.out 2; have v3c : w7.cell? ⟨gr, 3, none⟩ = some (.int .i64 0) := (blk_cell BRc.out 3).trans rfl; have f3c := blk_frozen BRc.out 3; clear hg7 hn7 hE7))
    go_wp2
    refine bodyPost_ret (results_ct rfl _ _ gr 60 #[.int .i64 x, .int .i64 b, .int .i64 c, .int .i64 d] (0, 0) _ rfl (blk_set (blk_set (blk_set (blk_set BRc.out 0 _) 1 _) 2 _) 3 _) Try.underlying60 rfl (by kernel_rfl)) rfl ?_
    have ho := HE0.out.off HWN.out.2
    exact ⟨rfl, grown_set (grown_set (grown_set (grown_set ((grown_drew HGB.out).trans HG7.out) HWN.out.2 _) HWN.out.2 _) HWN.out.2 _) HWN.out.2 _, n7, HN7.out, (((HE7.out.set ho _).set ho _).set ho _).set ho _⟩
set_option maxHeartbeats 4000000 in
set_option maxRecDepth 100000 in
theorem impl_step.at1 {bg bk bf B n : Nat} (g0 g1 g2 g3 a b c d x r1 r2 r3 r4 r5 : Int) (k : Nat) (w : World) (hE : impl_votesOn_2.Env w bg bk bf B g0 g1 g2 g3 n) (hn : n + 8 ^ k ≤ maxLen) (wa : (Lit.int .i64 a).wf = true) (wb : (Lit.int .i64 b).wf = true) (wc : (Lit.int .i64 c).wf = true) (wd : (Lit.int .i64 d).wf = true) (hx : x = wrap64 (b + 1)) (h : impl_step.one (impl_votesOn_2.g g0 g1 g2 g3 k) x g1 a x c d = some (r1, r2, r3, r4, r5)) :
    Calls Try.prog 64 #[.func (.func 83) #[] #[.pointer (some ⟨bg, 0, none⟩), .pointer (some ⟨bk, 0, none⟩), .pointer (some ⟨bf, 0, none⟩)], .agg #[.int .i64 g0, .int .i64 g1, .int .i64 g2, .int .i64 g3], .agg #[.int .i64 a, .int .i64 b, .int .i64 c, .int .i64 d], .int .i64 1] w fun e w' => e = .returned (.tuple #[.agg #[.int .i64 r1, .int .i64 r2, .int .i64 r3, .int .i64 r4], .int .i64 r5]) ∧ w.grownBy w' (some B) ∧ ∃ n', n' < n + 8 ^ k ∧ impl_votesOn_2.Env w' bg bk bf B g0 g1 g2 g3 n' := by
  have heg : ∀ (args : Array Value) (w : World), (callFunc 83 args).run Try.prog w = .ok (.enter 83 args) w := impl_votesOn_2.enters
  have HE0 := Aside0.mk hE
  have HP := Aside0.mk (Nat.lt_add_of_pos_right (Nat.pow_pos (by decide)) : n < n + 8 ^ k)
  have wx : (Lit.int .i64 x).wf = true := by rw [hx]; exact wrap64_wf _
  have HX1 := Aside0.mk hx
  clear hE hx
  obtain ⟨⟨e1, e2, e3, e4⟩, hc⟩ := impl_step.one_cases h
  rw [e1, e2, e3, e4]
  clear h e1 e2 e3 e4
  go_enter Try.func64, Try.ntmps64
  go_upto_region 2 with (first | ((with_reducible refine gate_dst (N := 5) rfl ?_); refine box_event ?hg (N := 5) ?hd (cs := #[.int .i64 g0, .int .i64 g1, .int .i64 g2, .int .i64 g3]) (t := 60) ?hr ?_; (case hd => rfl); (case hg => rfl); (case hr => first | (go_simp; done) | (go_simp; rfl)); intro gg hgg w1 hbox hb; have HBG := Aside0.mk hbox; have HB1 := Aside0.mk hb; have HE1 := Aside0.mk (HE0.out.below hb); clear hgg hb hbox) | ((with_reducible refine gate_dst (N := 6) rfl ?_); refine box_event ?hg (N := 6) ?hd (cs := #[.int .i64 a, .int .i64 b, .int .i64 c, .int .i64 d]) (t := 60) ?hr ?_; (case hd => rfl); (case hg => rfl); (case hr => first | (go_simp; done) | (go_simp; rfl)); intro gn hgn w2 hbox hb; have HBN := Aside0.mk hbox; have HGN := Aside0.mk (Nat.le_of_eq hgn.symm : w1.heap.size ≤ gn); have HB2 := Aside0.mk (below_step HB1.out hb); have HBG2 := Aside0.mk (blk_below HBG.out hb); have HE2 := Aside0.mk (HE1.out.below hb); clear hgn hb hbox) | ((with_reducible refine gate_dst (N := 8) rfl ?_); refine box_event ?hg (N := 8) ?hd (cs := #[.int .i64 0, .int .i64 0, .int .i64 0, .int .i64 0]) (t := 60) ?hr ?_; (case hd => rfl); (case hg => rfl); (case hr => first | (go_simp; done) | (go_simp; rfl)); intro gr hgr w3 hbox hb; have HBR := Aside0.mk hbox; have HGR := Aside0.mk (Nat.le_of_eq hgr.symm : w2.heap.size ≤ gr); have HB3 := Aside0.mk (below_step HB2.out hb); have HBG3 := Aside0.mk (blk_below HBG2.out hb); have HBN3 := Aside0.mk (blk_below HBN.out hb); have HE3 := Aside0.mk (HE2.out.below hb); clear hgr hb hbox) | ((with_reducible refine gate_dst (N := 11) rfl ?_); refine zIndexAt (i := 1) (n := 4) (t := 60) (e := 3) rfl rfl Try.underlying60 (by kernel_rfl) rfl rfl rfl (by decide) ?_) | ((with_reducible refine gate_dst (N := 12) rfl ?_); refine zLoadAt (t := 3) (k := .i64) (x := b) rfl rfl Try.underlying3 rfl HBN3.out rfl ?_) | ((with_reducible refine gate_dst (N := 14) rfl ?_); refine zIndexAt (i := 1) (n := 4) (t := 60) (e := 3) rfl rfl Try.underlying60 (by kernel_rfl) rfl rfl rfl (by decide) ?_) | ((with_reducible refine gate_store (t := 3) (p := 14) rfl ?_); refine zStoreAt (t := 3) (k := .i64) (x := x) rfl rfl rfl (by kernel_rfl) rfl (by rw [HX1.out]; first | rfl | (rw [← i64_w]; rfl) | (go_simp; done)) HBN3.out (show 1 < 4 by decide) ?_; intro w4 hs hg; have HBN4 := Aside0.mk (show w4.heap[gn]? = some (.cells #[.int .i64 a, .int .i64 x, .int .i64 c, .int .i64 d] 60 (0, 0)) from hs); have HG4 := Aside0.mk hg; clear hs hg))
  have HN := Aside0.mk (show gn ≠ gr ∧ gn ≠ gg ∧ gr ≠ gg from ⟨fun e => absurd (blk_lt HBN.out) (by rw [e]; have := HGR.out; omega), fun e => absurd (blk_lt HBG.out) (by have := HGN.out; omega), fun e => absurd (blk_lt HBG2.out) (by have := HGR.out; omega)⟩)
  have HWN := Aside0.mk (show w.heap.size ≤ gn ∧ w.heap.size ≤ gr from ⟨Nat.le_trans HB1.out.size HGN.out, Nat.le_trans HB2.out.size HGR.out⟩)
  have HGA := Aside0.mk (grown_own (grown_below (World.grownBy.refl w (some B)) HB3.out) HG4.out HWN.out.1)
  have HE4 := Aside0.mk (HE3.out.grown HG4.out (HE0.out.off HWN.out.1))
  have HBG4 := Aside0.mk (blk_grown HBG3.out HG4.out (fun e => HN.out.2.1 (Option.some.inj e).symm))
  have HBR4 := Aside0.mk (blk_grown HBR.out HG4.out (fun e => HN.out.1 (Option.some.inj e).symm))
  have z0 : w4.cell? ⟨gn, 0, none⟩ = some (.int .i64 a) := (blk_cell HBN4.out 0).trans rfl
  have z1 : w4.cell? ⟨gn, 1, none⟩ = some (.int .i64 x) := (blk_cell HBN4.out 1).trans rfl
  have z2 : w4.cell? ⟨gn, 2, none⟩ = some (.int .i64 c) := (blk_cell HBN4.out 2).trans rfl
  have z3 : w4.cell? ⟨gn, 3, none⟩ = some (.int .i64 d) := (blk_cell HBN4.out 3).trans rfl
  have y1 : w4.cell? ⟨gg, 1, none⟩ = some (.int .i64 g1) := (blk_cell HBG4.out 1).trans rfl
  rcases hc with ⟨q1, rfl⟩ | ⟨q1, q2, rfl⟩ | ⟨q1, q2, q3⟩
  · have q1b : decide (x > g1) = true := decide_eq_true q1
    have q1c : decide (g1 < x) = true := decide_eq_true q1
    clear q1
    go_quiet (fail)
    go_wp2_with (first | ((with_reducible refine gate_dst (N := 27) rfl ?_); refine zLoadBox4 (t := 60) (e := 3) rfl rfl Try.underlying60 (by kernel_rfl) rfl HBN4.out ?_) | ((with_reducible refine gate_store (t := 60) (p := 8) rfl ?_); refine zStoreBox4 (t := 60) rfl rfl rfl (by kernel_rfl) rfl rfl HBR4.out ?_; intro w6 hs hg; have HBR6 := Aside0.mk hs; have HG6 := Aside0.mk hg; clear hs hg))
    refine bodyPost_ret (results_ct rfl _ _ gr 60 #[.int .i64 a, .int .i64 x, .int .i64 c, .int .i64 d] (0, 0) _ rfl HBR6.out Try.underlying60 rfl (by kernel_rfl)) rfl ?_
    exact ⟨rfl, grown_own (grown_drewN HGA.out _) HG6.out HWN.out.2, n, HP.out, (HE4.out.drewN _).grown HG6.out (HE0.out.off HWN.out.2)⟩
  · have q1b : decide (x > g1) = false := decide_eq_false q1
    have q1c : decide (g1 < x) = false := decide_eq_false q1
    have HT := Aside0.mk q2
    clear q1 q2
    go_region_held3 (fun w' => (w'.cell? ⟨gn, 0, none⟩ = some (.int .i64 a) ∧ w'.cell? ⟨gn, 1, none⟩ = some (.int .i64 x) ∧ w'.cell? ⟨gn, 2, none⟩ = some (.int .i64 c) ∧ w'.cell? ⟨gn, 3, none⟩ = some (.int .i64 d)) ∧ w'.cell? ⟨gg, 1, none⟩ = some (.int .i64 g1)) (first | exact ⟨⟨z0, z1, z2, z3⟩, y1⟩ | exact ⟨⟨z0b, z1b, z2b, z3b⟩, yb⟩) (first | (go_at_call 61; refine (impl_tally_isOrdered.calls a x c d false _ HT.out).mono ?_; rintro e w5 ⟨rfl, hb5⟩; have z0b := (hb5.cell (World.block_lt_of_cell? w4 _ z0)).trans z0; have z1b := (hb5.cell (World.block_lt_of_cell? w4 _ z1)).trans z1; have z2b := (hb5.cell (World.block_lt_of_cell? w4 _ z2)).trans z2; have z3b := (hb5.cell (World.block_lt_of_cell? w4 _ z3)).trans z3; have yb := (hb5.cell (World.block_lt_of_cell? w4 _ y1)).trans y1; have HB5 := Aside0.mk hb5; clear hb5))
    have HBN5 := Aside0.mk (blk_below (blk_drew HBN4.out) HB5.out)
    have HBR5 := Aside0.mk (blk_below (blk_drew HBR4.out) HB5.out)
    have HE5 := Aside0.mk (HE4.out.drew.below HB5.out)
    have HGB := Aside0.mk (grown_below (grown_drew HGA.out) HB5.out)
    clear z0 z1 z2 z3 y1 yb
    clear z0b z1b z2b z3b
    go_wp2_with (first | ((with_reducible refine gate_dst (N := 27) rfl ?_); refine zLoadBox4 (t := 60) (e := 3) rfl rfl Try.underlying60 (by kernel_rfl) rfl HBN5.out ?_) | ((with_reducible refine gate_store (t := 60) (p := 8) rfl ?_); refine zStoreBox4 (t := 60) rfl rfl rfl (by kernel_rfl) rfl rfl HBR5.out ?_; intro w6 hs hg; have HBR6 := Aside0.mk hs; have HG6 := Aside0.mk hg; clear hs hg))
    refine bodyPost_ret (results_ct rfl _ _ gr 60 #[.int .i64 a, .int .i64 x, .int .i64 c, .int .i64 d] (0, 0) _ rfl HBR6.out Try.underlying60 rfl (by kernel_rfl)) rfl ?_
    exact ⟨rfl, grown_own HGB.out HG6.out HWN.out.2, n, HP.out, HE5.out.grown HG6.out (HE0.out.off HWN.out.2)⟩
  · have q1b : decide (x > g1) = false := decide_eq_false q1
    have q1c : decide (g1 < x) = false := decide_eq_false q1
    have HT := Aside0.mk q2
    have HQ := Aside0.mk q3
    clear q3
    clear q1 q2
    go_region_held3 (fun w' => (w'.cell? ⟨gn, 0, none⟩ = some (.int .i64 a) ∧ w'.cell? ⟨gn, 1, none⟩ = some (.int .i64 x) ∧ w'.cell? ⟨gn, 2, none⟩ = some (.int .i64 c) ∧ w'.cell? ⟨gn, 3, none⟩ = some (.int .i64 d)) ∧ w'.cell? ⟨gg, 1, none⟩ = some (.int .i64 g1)) (first | exact ⟨⟨z0, z1, z2, z3⟩, y1⟩ | exact ⟨⟨z0b, z1b, z2b, z3b⟩, yb⟩) (first | (go_at_call 61; refine (impl_tally_isOrdered.calls a x c d true _ HT.out).mono ?_; rintro e w5 ⟨rfl, hb5⟩; have z0b := (hb5.cell (World.block_lt_of_cell? w4 _ z0)).trans z0; have z1b := (hb5.cell (World.block_lt_of_cell? w4 _ z1)).trans z1; have z2b := (hb5.cell (World.block_lt_of_cell? w4 _ z2)).trans z2; have z3b := (hb5.cell (World.block_lt_of_cell? w4 _ z3)).trans z3; have yb := (hb5.cell (World.block_lt_of_cell? w4 _ y1)).trans y1; have HB5 := Aside0.mk hb5; clear hb5))
    have HBN5 := Aside0.mk (blk_below (blk_drew HBN4.out) HB5.out)
    have HBR5 := Aside0.mk (blk_below (blk_drew HBR4.out) HB5.out)
    have HE5 := Aside0.mk (HE4.out.drew.below HB5.out)
    have HGB := Aside0.mk (grown_below (grown_drew HGA.out) HB5.out)
    clear z0 z1 z2 z3 y1 yb
    go_upto_region 4 with (fail)
    clear HE1 HE2 HE3 HBG HBG2 HBG3 HBG4 HBN HBN3 HBN4 HBN5 HBR HBR4 HB1 HB2 HB3 HG4 HGA HE4 HB5 HT HX1
    have v0 : w5.cell? ⟨gr, 0, none⟩ = some (.int .i64 0) := (blk_cell HBR5.out 0).trans rfl
    have f0 : w5.frozen? ⟨gr, 0, none⟩ = false := blk_frozen HBR5.out 0
    have v1 : w5.cell? ⟨gr, 1, none⟩ = some (.int .i64 0) := (blk_cell HBR5.out 1).trans rfl
    have f1 : w5.frozen? ⟨gr, 1, none⟩ = false := blk_frozen HBR5.out 1
    have v2 : w5.cell? ⟨gr, 2, none⟩ = some (.int .i64 0) := (blk_cell HBR5.out 2).trans rfl
    have f2 : w5.frozen? ⟨gr, 2, none⟩ = false := blk_frozen HBR5.out 2
    have v3 : w5.cell? ⟨gr, 3, none⟩ = some (.int .i64 0) := (blk_cell HBR5.out 3).trans rfl
    have f3 : w5.frozen? ⟨gr, 3, none⟩ = false := blk_frozen HBR5.out 3
    go_region_held3 (fun w' => w'.cell? ⟨gn, 0, none⟩ = some (.int .i64 a) ∧ w'.cell? ⟨gn, 1, none⟩ = some (.int .i64 x) ∧ w'.cell? ⟨gn, 2, none⟩ = some (.int .i64 c) ∧ w'.cell? ⟨gn, 3, none⟩ = some (.int .i64 d)) (first | (with_reducible exact ⟨z0b, z1b, z2b, z3b⟩) | (with_reducible exact ⟨z0c, z1c, z2c, z3c⟩) | (with_reducible refine ⟨cell_set4 HN.out.1 z0c, cell_set4 HN.out.1 z1c, cell_set4 HN.out.1 z2c, cell_set4 HN.out.1 z3c⟩) | exact ⟨z0b, z1b, z2b, z3b⟩ | fail) (first | (go_at_fn 83; refine (impl_votesOn_2.Env.call (bg := bg) (bk := bk) (bf := bf) (B := B) (n := n) ?hE k hn a x c d r5 wa wx wc wd HQ.out).mono ?_; (case hE => exact (by first | exact HE5.out.drew | exact HE5.out | exact (((HE5.out.set (HE0.out.off HWN.out.2) _).set (HE0.out.off HWN.out.2) _).set (HE0.out.off HWN.out.2) _).set (HE0.out.off HWN.out.2) _ | exact ((((HE5.out.set (HE0.out.off HWN.out.2) _).set (HE0.out.off HWN.out.2) _).set (HE0.out.off HWN.out.2) _).set (HE0.out.off HWN.out.2) _).drew)); rintro e w7 ⟨rfl, hg7, n7, hn7, hE7⟩; have HG7 := Aside0.mk hg7; have HN7 := Aside0.mk hn7; have HE7 := Aside0.mk hE7; have z0c : w7.cell? ⟨gn, 0, none⟩ = some (.int .i64 a) := hg7.cell (by exact z0b) (fun e => (HE0.out.off HWN.out.1).2.2.2 (Option.some.inj e)); have z1c : w7.cell? ⟨gn, 1, none⟩ = some (.int .i64 x) := hg7.cell (by exact z1b) (fun e => (HE0.out.off HWN.out.1).2.2.2 (Option.some.inj e)); have z2c : w7.cell? ⟨gn, 2, none⟩ = some (.int .i64 c) := hg7.cell (by exact z2b) (fun e => (HE0.out.off HWN.out.1).2.2.2 (Option.some.inj e)); have z3c : w7.cell? ⟨gn, 3, none⟩ = some (.int .i64 d) := hg7.cell (by exact z3b) (fun e => (HE0.out.off HWN.out.1).2.2.2 (Option.some.inj e)); have BRc := Aside0.mk (show w7.heap[gr]? = some (.cells #[.int .i64 0, .int .i64 0, .int .i64 0, .int .i64 0] 60 (0, 0)) from (hg7.block gr (by exact blk_lt HBR5.out) (fun e => (HE0.out.off HWN.out.2).2.2.2 (Option.some.inj e))).trans (by exact HBR5.out)); have v0c : w7.cell? ⟨gr, 0, none⟩ = some (.int .i64 0) := (blk_cell BRc.out 0).trans rfl; have f0c := blk_frozen BRc.out 0; have v1c : w7.cell? ⟨gr, 1, none⟩ = some (.int .i64 0) := (blk_cell BRc.out 1).trans rfl; have f1c := blk_frozen BRc.out 1; have v2c : w7.cell? ⟨gr, 2, none⟩ = some (.int .i64 0) := (blk_cell BRc.out 2).trans rfl; have f2c := blk_frozen BRc.out 2; have v3c : w7.cell? ⟨gr, 3, none⟩ = some (.int .i64 0) := (blk_cell BRc.out 3).trans rfl; have f3c := blk_frozen BRc.out 3; clear hg7 hn7 hE7))
    go_wp2
    refine bodyPost_ret (results_ct rfl _ _ gr 60 #[.int .i64 a, .int .i64 x, .int .i64 c, .int .i64 d] (0, 0) _ rfl (blk_set (blk_set (blk_set (blk_set BRc.out 0 _) 1 _) 2 _) 3 _) Try.underlying60 rfl (by kernel_rfl)) rfl ?_
    have ho := HE0.out.off HWN.out.2
    exact ⟨rfl, grown_set (grown_set (grown_set (grown_set ((grown_drew HGB.out).trans HG7.out) HWN.out.2 _) HWN.out.2 _) HWN.out.2 _) HWN.out.2 _, n7, HN7.out, (((HE7.out.set ho _).set ho _).set ho _).set ho _⟩
set_option maxHeartbeats 4000000 in
set_option maxRecDepth 100000 in
theorem impl_step.at2 {bg bk bf B n : Nat} (g0 g1 g2 g3 a b c d x r1 r2 r3 r4 r5 : Int) (k : Nat) (w : World) (hE : impl_votesOn_2.Env w bg bk bf B g0 g1 g2 g3 n) (hn : n + 8 ^ k ≤ maxLen) (wa : (Lit.int .i64 a).wf = true) (wb : (Lit.int .i64 b).wf = true) (wc : (Lit.int .i64 c).wf = true) (wd : (Lit.int .i64 d).wf = true) (hx : x = wrap64 (c + 1)) (h : impl_step.one (impl_votesOn_2.g g0 g1 g2 g3 k) x g2 a b x d = some (r1, r2, r3, r4, r5)) :
    Calls Try.prog 64 #[.func (.func 83) #[] #[.pointer (some ⟨bg, 0, none⟩), .pointer (some ⟨bk, 0, none⟩), .pointer (some ⟨bf, 0, none⟩)], .agg #[.int .i64 g0, .int .i64 g1, .int .i64 g2, .int .i64 g3], .agg #[.int .i64 a, .int .i64 b, .int .i64 c, .int .i64 d], .int .i64 2] w fun e w' => e = .returned (.tuple #[.agg #[.int .i64 r1, .int .i64 r2, .int .i64 r3, .int .i64 r4], .int .i64 r5]) ∧ w.grownBy w' (some B) ∧ ∃ n', n' < n + 8 ^ k ∧ impl_votesOn_2.Env w' bg bk bf B g0 g1 g2 g3 n' := by
  have heg : ∀ (args : Array Value) (w : World), (callFunc 83 args).run Try.prog w = .ok (.enter 83 args) w := impl_votesOn_2.enters
  have HE0 := Aside0.mk hE
  have HP := Aside0.mk (Nat.lt_add_of_pos_right (Nat.pow_pos (by decide)) : n < n + 8 ^ k)
  have wx : (Lit.int .i64 x).wf = true := by rw [hx]; exact wrap64_wf _
  have HX1 := Aside0.mk hx
  clear hE hx
  obtain ⟨⟨e1, e2, e3, e4⟩, hc⟩ := impl_step.one_cases h
  rw [e1, e2, e3, e4]
  clear h e1 e2 e3 e4
  go_enter Try.func64, Try.ntmps64
  go_upto_region 2 with (first | ((with_reducible refine gate_dst (N := 5) rfl ?_); refine box_event ?hg (N := 5) ?hd (cs := #[.int .i64 g0, .int .i64 g1, .int .i64 g2, .int .i64 g3]) (t := 60) ?hr ?_; (case hd => rfl); (case hg => rfl); (case hr => first | (go_simp; done) | (go_simp; rfl)); intro gg hgg w1 hbox hb; have HBG := Aside0.mk hbox; have HB1 := Aside0.mk hb; have HE1 := Aside0.mk (HE0.out.below hb); clear hgg hb hbox) | ((with_reducible refine gate_dst (N := 6) rfl ?_); refine box_event ?hg (N := 6) ?hd (cs := #[.int .i64 a, .int .i64 b, .int .i64 c, .int .i64 d]) (t := 60) ?hr ?_; (case hd => rfl); (case hg => rfl); (case hr => first | (go_simp; done) | (go_simp; rfl)); intro gn hgn w2 hbox hb; have HBN := Aside0.mk hbox; have HGN := Aside0.mk (Nat.le_of_eq hgn.symm : w1.heap.size ≤ gn); have HB2 := Aside0.mk (below_step HB1.out hb); have HBG2 := Aside0.mk (blk_below HBG.out hb); have HE2 := Aside0.mk (HE1.out.below hb); clear hgn hb hbox) | ((with_reducible refine gate_dst (N := 8) rfl ?_); refine box_event ?hg (N := 8) ?hd (cs := #[.int .i64 0, .int .i64 0, .int .i64 0, .int .i64 0]) (t := 60) ?hr ?_; (case hd => rfl); (case hg => rfl); (case hr => first | (go_simp; done) | (go_simp; rfl)); intro gr hgr w3 hbox hb; have HBR := Aside0.mk hbox; have HGR := Aside0.mk (Nat.le_of_eq hgr.symm : w2.heap.size ≤ gr); have HB3 := Aside0.mk (below_step HB2.out hb); have HBG3 := Aside0.mk (blk_below HBG2.out hb); have HBN3 := Aside0.mk (blk_below HBN.out hb); have HE3 := Aside0.mk (HE2.out.below hb); clear hgr hb hbox) | ((with_reducible refine gate_dst (N := 11) rfl ?_); refine zIndexAt (i := 2) (n := 4) (t := 60) (e := 3) rfl rfl Try.underlying60 (by kernel_rfl) rfl rfl rfl (by decide) ?_) | ((with_reducible refine gate_dst (N := 12) rfl ?_); refine zLoadAt (t := 3) (k := .i64) (x := c) rfl rfl Try.underlying3 rfl HBN3.out rfl ?_) | ((with_reducible refine gate_dst (N := 14) rfl ?_); refine zIndexAt (i := 2) (n := 4) (t := 60) (e := 3) rfl rfl Try.underlying60 (by kernel_rfl) rfl rfl rfl (by decide) ?_) | ((with_reducible refine gate_store (t := 3) (p := 14) rfl ?_); refine zStoreAt (t := 3) (k := .i64) (x := x) rfl rfl rfl (by kernel_rfl) rfl (by rw [HX1.out]; first | rfl | (rw [← i64_w]; rfl) | (go_simp; done)) HBN3.out (show 2 < 4 by decide) ?_; intro w4 hs hg; have HBN4 := Aside0.mk (show w4.heap[gn]? = some (.cells #[.int .i64 a, .int .i64 b, .int .i64 x, .int .i64 d] 60 (0, 0)) from hs); have HG4 := Aside0.mk hg; clear hs hg))
  have HN := Aside0.mk (show gn ≠ gr ∧ gn ≠ gg ∧ gr ≠ gg from ⟨fun e => absurd (blk_lt HBN.out) (by rw [e]; have := HGR.out; omega), fun e => absurd (blk_lt HBG.out) (by have := HGN.out; omega), fun e => absurd (blk_lt HBG2.out) (by have := HGR.out; omega)⟩)
  have HWN := Aside0.mk (show w.heap.size ≤ gn ∧ w.heap.size ≤ gr from ⟨Nat.le_trans HB1.out.size HGN.out, Nat.le_trans HB2.out.size HGR.out⟩)
  have HGA := Aside0.mk (grown_own (grown_below (World.grownBy.refl w (some B)) HB3.out) HG4.out HWN.out.1)
  have HE4 := Aside0.mk (HE3.out.grown HG4.out (HE0.out.off HWN.out.1))
  have HBG4 := Aside0.mk (blk_grown HBG3.out HG4.out (fun e => HN.out.2.1 (Option.some.inj e).symm))
  have HBR4 := Aside0.mk (blk_grown HBR.out HG4.out (fun e => HN.out.1 (Option.some.inj e).symm))
  have z0 : w4.cell? ⟨gn, 0, none⟩ = some (.int .i64 a) := (blk_cell HBN4.out 0).trans rfl
  have z1 : w4.cell? ⟨gn, 1, none⟩ = some (.int .i64 b) := (blk_cell HBN4.out 1).trans rfl
  have z2 : w4.cell? ⟨gn, 2, none⟩ = some (.int .i64 x) := (blk_cell HBN4.out 2).trans rfl
  have z3 : w4.cell? ⟨gn, 3, none⟩ = some (.int .i64 d) := (blk_cell HBN4.out 3).trans rfl
  have y2 : w4.cell? ⟨gg, 2, none⟩ = some (.int .i64 g2) := (blk_cell HBG4.out 2).trans rfl
  rcases hc with ⟨q1, rfl⟩ | ⟨q1, q2, rfl⟩ | ⟨q1, q2, q3⟩
  · have q1b : decide (x > g2) = true := decide_eq_true q1
    have q1c : decide (g2 < x) = true := decide_eq_true q1
    clear q1
    go_quiet (fail)
    go_wp2_with (first | ((with_reducible refine gate_dst (N := 27) rfl ?_); refine zLoadBox4 (t := 60) (e := 3) rfl rfl Try.underlying60 (by kernel_rfl) rfl HBN4.out ?_) | ((with_reducible refine gate_store (t := 60) (p := 8) rfl ?_); refine zStoreBox4 (t := 60) rfl rfl rfl (by kernel_rfl) rfl rfl HBR4.out ?_; intro w6 hs hg; have HBR6 := Aside0.mk hs; have HG6 := Aside0.mk hg; clear hs hg))
    refine bodyPost_ret (results_ct rfl _ _ gr 60 #[.int .i64 a, .int .i64 b, .int .i64 x, .int .i64 d] (0, 0) _ rfl HBR6.out Try.underlying60 rfl (by kernel_rfl)) rfl ?_
    exact ⟨rfl, grown_own (grown_drewN HGA.out _) HG6.out HWN.out.2, n, HP.out, (HE4.out.drewN _).grown HG6.out (HE0.out.off HWN.out.2)⟩
  · have q1b : decide (x > g2) = false := decide_eq_false q1
    have q1c : decide (g2 < x) = false := decide_eq_false q1
    have HT := Aside0.mk q2
    clear q1 q2
    go_region_held3 (fun w' => (w'.cell? ⟨gn, 0, none⟩ = some (.int .i64 a) ∧ w'.cell? ⟨gn, 1, none⟩ = some (.int .i64 b) ∧ w'.cell? ⟨gn, 2, none⟩ = some (.int .i64 x) ∧ w'.cell? ⟨gn, 3, none⟩ = some (.int .i64 d)) ∧ w'.cell? ⟨gg, 2, none⟩ = some (.int .i64 g2)) (first | exact ⟨⟨z0, z1, z2, z3⟩, y2⟩ | exact ⟨⟨z0b, z1b, z2b, z3b⟩, yb⟩) (first | (go_at_call 61; refine (impl_tally_isOrdered.calls a b x d false _ HT.out).mono ?_; rintro e w5 ⟨rfl, hb5⟩; have z0b := (hb5.cell (World.block_lt_of_cell? w4 _ z0)).trans z0; have z1b := (hb5.cell (World.block_lt_of_cell? w4 _ z1)).trans z1; have z2b := (hb5.cell (World.block_lt_of_cell? w4 _ z2)).trans z2; have z3b := (hb5.cell (World.block_lt_of_cell? w4 _ z3)).trans z3; have yb := (hb5.cell (World.block_lt_of_cell? w4 _ y2)).trans y2; have HB5 := Aside0.mk hb5; clear hb5))
    have HBN5 := Aside0.mk (blk_below (blk_drew HBN4.out) HB5.out)
    have HBR5 := Aside0.mk (blk_below (blk_drew HBR4.out) HB5.out)
    have HE5 := Aside0.mk (HE4.out.drew.below HB5.out)
    have HGB := Aside0.mk (grown_below (grown_drew HGA.out) HB5.out)
    clear z0 z1 z2 z3 y2 yb
    clear z0b z1b z2b z3b
    go_wp2_with (first | ((with_reducible refine gate_dst (N := 27) rfl ?_); refine zLoadBox4 (t := 60) (e := 3) rfl rfl Try.underlying60 (by kernel_rfl) rfl HBN5.out ?_) | ((with_reducible refine gate_store (t := 60) (p := 8) rfl ?_); refine zStoreBox4 (t := 60) rfl rfl rfl (by kernel_rfl) rfl rfl HBR5.out ?_; intro w6 hs hg; have HBR6 := Aside0.mk hs; have HG6 := Aside0.mk hg; clear hs hg))
    refine bodyPost_ret (results_ct rfl _ _ gr 60 #[.int .i64 a, .int .i64 b, .int .i64 x, .int .i64 d] (0, 0) _ rfl HBR6.out Try.underlying60 rfl (by kernel_rfl)) rfl ?_
    exact ⟨rfl, grown_own HGB.out HG6.out HWN.out.2, n, HP.out, HE5.out.grown HG6.out (HE0.out.off HWN.out.2)⟩
  · have q1b : decide (x > g2) = false := decide_eq_false q1
    have q1c : decide (g2 < x) = false := decide_eq_false q1
    have HT := Aside0.mk q2
    have HQ := Aside0.mk q3
    clear q3
    clear q1 q2
    go_region_held3 (fun w' => (w'.cell? ⟨gn, 0, none⟩ = some (.int .i64 a) ∧ w'.cell? ⟨gn, 1, none⟩ = some (.int .i64 b) ∧ w'.cell? ⟨gn, 2, none⟩ = some (.int .i64 x) ∧ w'.cell? ⟨gn, 3, none⟩ = some (.int .i64 d)) ∧ w'.cell? ⟨gg, 2, none⟩ = some (.int .i64 g2)) (first | exact ⟨⟨z0, z1, z2, z3⟩, y2⟩ | exact ⟨⟨z0b, z1b, z2b, z3b⟩, yb⟩) (first | (go_at_call 61; refine (impl_tally_isOrdered.calls a b x d true _ HT.out).mono ?_; rintro e w5 ⟨rfl, hb5⟩; have z0b := (hb5.cell (World.block_lt_of_cell? w4 _ z0)).trans z0; have z1b := (hb5.cell (World.block_lt_of_cell? w4 _ z1)).trans z1; have z2b := (hb5.cell (World.block_lt_of_cell? w4 _ z2)).trans z2; have z3b := (hb5.cell (World.block_lt_of_cell? w4 _ z3)).trans z3; have yb := (hb5.cell (World.block_lt_of_cell? w4 _ y2)).trans y2; have HB5 := Aside0.mk hb5; clear hb5))
    have HBN5 := Aside0.mk (blk_below (blk_drew HBN4.out) HB5.out)
    have HBR5 := Aside0.mk (blk_below (blk_drew HBR4.out) HB5.out)
    have HE5 := Aside0.mk (HE4.out.drew.below HB5.out)
    have HGB := Aside0.mk (grown_below (grown_drew HGA.out) HB5.out)
    clear z0 z1 z2 z3 y2 yb
    go_upto_region 4 with (fail)
    clear HE1 HE2 HE3 HBG HBG2 HBG3 HBG4 HBN HBN3 HBN4 HBN5 HBR HBR4 HB1 HB2 HB3 HG4 HGA HE4 HB5 HT HX1
    have v0 : w5.cell? ⟨gr, 0, none⟩ = some (.int .i64 0) := (blk_cell HBR5.out 0).trans rfl
    have f0 : w5.frozen? ⟨gr, 0, none⟩ = false := blk_frozen HBR5.out 0
    have v1 : w5.cell? ⟨gr, 1, none⟩ = some (.int .i64 0) := (blk_cell HBR5.out 1).trans rfl
    have f1 : w5.frozen? ⟨gr, 1, none⟩ = false := blk_frozen HBR5.out 1
    have v2 : w5.cell? ⟨gr, 2, none⟩ = some (.int .i64 0) := (blk_cell HBR5.out 2).trans rfl
    have f2 : w5.frozen? ⟨gr, 2, none⟩ = false := blk_frozen HBR5.out 2
    have v3 : w5.cell? ⟨gr, 3, none⟩ = some (.int .i64 0) := (blk_cell HBR5.out 3).trans rfl
    have f3 : w5.frozen? ⟨gr, 3, none⟩ = false := blk_frozen HBR5.out 3
    go_region_held3 (fun w' => w'.cell? ⟨gn, 0, none⟩ = some (.int .i64 a) ∧ w'.cell? ⟨gn, 1, none⟩ = some (.int .i64 b) ∧ w'.cell? ⟨gn, 2, none⟩ = some (.int .i64 x) ∧ w'.cell? ⟨gn, 3, none⟩ = some (.int .i64 d)) (first | (with_reducible exact ⟨z0b, z1b, z2b, z3b⟩) | (with_reducible exact ⟨z0c, z1c, z2c, z3c⟩) | (with_reducible refine ⟨cell_set4 HN.out.1 z0c, cell_set4 HN.out.1 z1c, cell_set4 HN.out.1 z2c, cell_set4 HN.out.1 z3c⟩) | exact ⟨z0b, z1b, z2b, z3b⟩ | fail) (first | (go_at_fn 83; refine (impl_votesOn_2.Env.call (bg := bg) (bk := bk) (bf := bf) (B := B) (n := n) ?hE k hn a b x d r5 wa wb wx wd HQ.out).mono ?_; (case hE => exact (by first | exact HE5.out.drew | exact HE5.out | exact (((HE5.out.set (HE0.out.off HWN.out.2) _).set (HE0.out.off HWN.out.2) _).set (HE0.out.off HWN.out.2) _).set (HE0.out.off HWN.out.2) _ | exact ((((HE5.out.set (HE0.out.off HWN.out.2) _).set (HE0.out.off HWN.out.2) _).set (HE0.out.off HWN.out.2) _).set (HE0.out.off HWN.out.2) _).drew)); rintro e w7 ⟨rfl, hg7, n7, hn7, hE7⟩; have HG7 := Aside0.mk hg7; have HN7 := Aside0.mk hn7; have HE7 := Aside0.mk hE7; have z0c : w7.cell? ⟨gn, 0, none⟩ = some (.int .i64 a) := hg7.cell (by exact z0b) (fun e => (HE0.out.off HWN.out.1).2.2.2 (Option.some.inj e)); have z1c : w7.cell? ⟨gn, 1, none⟩ = some (.int .i64 b) := hg7.cell (by exact z1b) (fun e => (HE0.out.off HWN.out.1).2.2.2 (Option.some.inj e)); have z2c : w7.cell? ⟨gn, 2, none⟩ = some (.int .i64 x) := hg7.cell (by exact z2b) (fun e => (HE0.out.off HWN.out.1).2.2.2 (Option.some.inj e)); have z3c : w7.cell? ⟨gn, 3, none⟩ = some (.int .i64 d) := hg7.cell (by exact z3b) (fun e => (HE0.out.off HWN.out.1).2.2.2 (Option.some.inj e)); have BRc := Aside0.mk (show w7.heap[gr]? = some (.cells #[.int .i64 0, .int .i64 0, .int .i64 0, .int .i64 0] 60 (0, 0)) from (hg7.block gr (by exact blk_lt HBR5.out) (fun e => (HE0.out.off HWN.out.2).2.2.2 (Option.some.inj e))).trans (by exact HBR5.out)); have v0c : w7.cell? ⟨gr, 0, none⟩ = some (.int .i64 0) := (blk_cell BRc.out 0).trans rfl; have f0c := blk_frozen BRc.out 0; have v1c : w7.cell? ⟨gr, 1, none⟩ = some (.int .i64 0) := (blk_cell BRc.out 1).trans rfl; have f1c := blk_frozen BRc.out 1; have v2c : w7.cell? ⟨gr, 2, none⟩ = some (.int .i64 0) := (blk_cell BRc.out 2).trans rfl; have f2c := blk_frozen BRc.out 2; have v3c : w7.cell? ⟨gr, 3, none⟩ = some (.int .i64 0) := (blk_cell BRc.out 3).trans rfl; have f3c := blk_frozen BRc.out 3; clear hg7 hn7 hE7))
    go_wp2
    refine bodyPost_ret (results_ct rfl _ _ gr 60 #[.int .i64 a, .int .i64 b, .int .i64 x, .int .i64 d] (0, 0) _ rfl (blk_set (blk_set (blk_set (blk_set BRc.out 0 _) 1 _) 2 _) 3 _) Try.underlying60 rfl (by kernel_rfl)) rfl ?_
    have ho := HE0.out.off HWN.out.2
    exact ⟨rfl, grown_set (grown_set (grown_set (grown_set ((grown_drew HGB.out).trans HG7.out) HWN.out.2 _) HWN.out.2 _) HWN.out.2 _) HWN.out.2 _, n7, HN7.out, (((HE7.out.set ho _).set ho _).set ho _).set ho _⟩
set_option maxHeartbeats 4000000 in
set_option maxRecDepth 100000 in
theorem impl_step.at3 {bg bk bf B n : Nat} (g0 g1 g2 g3 a b c d x r1 r2 r3 r4 r5 : Int) (k : Nat) (w : World) (hE : impl_votesOn_2.Env w bg bk bf B g0 g1 g2 g3 n) (hn : n + 8 ^ k ≤ maxLen) (wa : (Lit.int .i64 a).wf = true) (wb : (Lit.int .i64 b).wf = true) (wc : (Lit.int .i64 c).wf = true) (wd : (Lit.int .i64 d).wf = true) (hx : x = wrap64 (d + 1)) (h : impl_step.one (impl_votesOn_2.g g0 g1 g2 g3 k) x g3 a b c x = some (r1, r2, r3, r4, r5)) :
    Calls Try.prog 64 #[.func (.func 83) #[] #[.pointer (some ⟨bg, 0, none⟩), .pointer (some ⟨bk, 0, none⟩), .pointer (some ⟨bf, 0, none⟩)], .agg #[.int .i64 g0, .int .i64 g1, .int .i64 g2, .int .i64 g3], .agg #[.int .i64 a, .int .i64 b, .int .i64 c, .int .i64 d], .int .i64 3] w fun e w' => e = .returned (.tuple #[.agg #[.int .i64 r1, .int .i64 r2, .int .i64 r3, .int .i64 r4], .int .i64 r5]) ∧ w.grownBy w' (some B) ∧ ∃ n', n' < n + 8 ^ k ∧ impl_votesOn_2.Env w' bg bk bf B g0 g1 g2 g3 n' := by
  have heg : ∀ (args : Array Value) (w : World), (callFunc 83 args).run Try.prog w = .ok (.enter 83 args) w := impl_votesOn_2.enters
  have HE0 := Aside0.mk hE
  have HP := Aside0.mk (Nat.lt_add_of_pos_right (Nat.pow_pos (by decide)) : n < n + 8 ^ k)
  have wx : (Lit.int .i64 x).wf = true := by rw [hx]; exact wrap64_wf _
  have HX1 := Aside0.mk hx
  clear hE hx
  obtain ⟨⟨e1, e2, e3, e4⟩, hc⟩ := impl_step.one_cases h
  rw [e1, e2, e3, e4]
  clear h e1 e2 e3 e4
  go_enter Try.func64, Try.ntmps64
  go_upto_region 2 with (first | ((with_reducible refine gate_dst (N := 5) rfl ?_); refine box_event ?hg (N := 5) ?hd (cs := #[.int .i64 g0, .int .i64 g1, .int .i64 g2, .int .i64 g3]) (t := 60) ?hr ?_; (case hd => rfl); (case hg => rfl); (case hr => first | (go_simp; done) | (go_simp; rfl)); intro gg hgg w1 hbox hb; have HBG := Aside0.mk hbox; have HB1 := Aside0.mk hb; have HE1 := Aside0.mk (HE0.out.below hb); clear hgg hb hbox) | ((with_reducible refine gate_dst (N := 6) rfl ?_); refine box_event ?hg (N := 6) ?hd (cs := #[.int .i64 a, .int .i64 b, .int .i64 c, .int .i64 d]) (t := 60) ?hr ?_; (case hd => rfl); (case hg => rfl); (case hr => first | (go_simp; done) | (go_simp; rfl)); intro gn hgn w2 hbox hb; have HBN := Aside0.mk hbox; have HGN := Aside0.mk (Nat.le_of_eq hgn.symm : w1.heap.size ≤ gn); have HB2 := Aside0.mk (below_step HB1.out hb); have HBG2 := Aside0.mk (blk_below HBG.out hb); have HE2 := Aside0.mk (HE1.out.below hb); clear hgn hb hbox) | ((with_reducible refine gate_dst (N := 8) rfl ?_); refine box_event ?hg (N := 8) ?hd (cs := #[.int .i64 0, .int .i64 0, .int .i64 0, .int .i64 0]) (t := 60) ?hr ?_; (case hd => rfl); (case hg => rfl); (case hr => first | (go_simp; done) | (go_simp; rfl)); intro gr hgr w3 hbox hb; have HBR := Aside0.mk hbox; have HGR := Aside0.mk (Nat.le_of_eq hgr.symm : w2.heap.size ≤ gr); have HB3 := Aside0.mk (below_step HB2.out hb); have HBG3 := Aside0.mk (blk_below HBG2.out hb); have HBN3 := Aside0.mk (blk_below HBN.out hb); have HE3 := Aside0.mk (HE2.out.below hb); clear hgr hb hbox) | ((with_reducible refine gate_dst (N := 11) rfl ?_); refine zIndexAt (i := 3) (n := 4) (t := 60) (e := 3) rfl rfl Try.underlying60 (by kernel_rfl) rfl rfl rfl (by decide) ?_) | ((with_reducible refine gate_dst (N := 12) rfl ?_); refine zLoadAt (t := 3) (k := .i64) (x := d) rfl rfl Try.underlying3 rfl HBN3.out rfl ?_) | ((with_reducible refine gate_dst (N := 14) rfl ?_); refine zIndexAt (i := 3) (n := 4) (t := 60) (e := 3) rfl rfl Try.underlying60 (by kernel_rfl) rfl rfl rfl (by decide) ?_) | ((with_reducible refine gate_store (t := 3) (p := 14) rfl ?_); refine zStoreAt (t := 3) (k := .i64) (x := x) rfl rfl rfl (by kernel_rfl) rfl (by rw [HX1.out]; first | rfl | (rw [← i64_w]; rfl) | (go_simp; done)) HBN3.out (show 3 < 4 by decide) ?_; intro w4 hs hg; have HBN4 := Aside0.mk (show w4.heap[gn]? = some (.cells #[.int .i64 a, .int .i64 b, .int .i64 c, .int .i64 x] 60 (0, 0)) from hs); have HG4 := Aside0.mk hg; clear hs hg))
  have HN := Aside0.mk (show gn ≠ gr ∧ gn ≠ gg ∧ gr ≠ gg from ⟨fun e => absurd (blk_lt HBN.out) (by rw [e]; have := HGR.out; omega), fun e => absurd (blk_lt HBG.out) (by have := HGN.out; omega), fun e => absurd (blk_lt HBG2.out) (by have := HGR.out; omega)⟩)
  have HWN := Aside0.mk (show w.heap.size ≤ gn ∧ w.heap.size ≤ gr from ⟨Nat.le_trans HB1.out.size HGN.out, Nat.le_trans HB2.out.size HGR.out⟩)
  have HGA := Aside0.mk (grown_own (grown_below (World.grownBy.refl w (some B)) HB3.out) HG4.out HWN.out.1)
  have HE4 := Aside0.mk (HE3.out.grown HG4.out (HE0.out.off HWN.out.1))
  have HBG4 := Aside0.mk (blk_grown HBG3.out HG4.out (fun e => HN.out.2.1 (Option.some.inj e).symm))
  have HBR4 := Aside0.mk (blk_grown HBR.out HG4.out (fun e => HN.out.1 (Option.some.inj e).symm))
  have z0 : w4.cell? ⟨gn, 0, none⟩ = some (.int .i64 a) := (blk_cell HBN4.out 0).trans rfl
  have z1 : w4.cell? ⟨gn, 1, none⟩ = some (.int .i64 b) := (blk_cell HBN4.out 1).trans rfl
  have z2 : w4.cell? ⟨gn, 2, none⟩ = some (.int .i64 c) := (blk_cell HBN4.out 2).trans rfl
  have z3 : w4.cell? ⟨gn, 3, none⟩ = some (.int .i64 x) := (blk_cell HBN4.out 3).trans rfl
  have y3 : w4.cell? ⟨gg, 3, none⟩ = some (.int .i64 g3) := (blk_cell HBG4.out 3).trans rfl
  rcases hc with ⟨q1, rfl⟩ | ⟨q1, q2, rfl⟩ | ⟨q1, q2, q3⟩
  · have q1b : decide (x > g3) = true := decide_eq_true q1
    have q1c : decide (g3 < x) = true := decide_eq_true q1
    clear q1
    go_quiet (fail)
    go_wp2_with (first | ((with_reducible refine gate_dst (N := 27) rfl ?_); refine zLoadBox4 (t := 60) (e := 3) rfl rfl Try.underlying60 (by kernel_rfl) rfl HBN4.out ?_) | ((with_reducible refine gate_store (t := 60) (p := 8) rfl ?_); refine zStoreBox4 (t := 60) rfl rfl rfl (by kernel_rfl) rfl rfl HBR4.out ?_; intro w6 hs hg; have HBR6 := Aside0.mk hs; have HG6 := Aside0.mk hg; clear hs hg))
    refine bodyPost_ret (results_ct rfl _ _ gr 60 #[.int .i64 a, .int .i64 b, .int .i64 c, .int .i64 x] (0, 0) _ rfl HBR6.out Try.underlying60 rfl (by kernel_rfl)) rfl ?_
    exact ⟨rfl, grown_own (grown_drewN HGA.out _) HG6.out HWN.out.2, n, HP.out, (HE4.out.drewN _).grown HG6.out (HE0.out.off HWN.out.2)⟩
  · have q1b : decide (x > g3) = false := decide_eq_false q1
    have q1c : decide (g3 < x) = false := decide_eq_false q1
    have HT := Aside0.mk q2
    clear q1 q2
    go_region_held3 (fun w' => (w'.cell? ⟨gn, 0, none⟩ = some (.int .i64 a) ∧ w'.cell? ⟨gn, 1, none⟩ = some (.int .i64 b) ∧ w'.cell? ⟨gn, 2, none⟩ = some (.int .i64 c) ∧ w'.cell? ⟨gn, 3, none⟩ = some (.int .i64 x)) ∧ w'.cell? ⟨gg, 3, none⟩ = some (.int .i64 g3)) (first | exact ⟨⟨z0, z1, z2, z3⟩, y3⟩ | exact ⟨⟨z0b, z1b, z2b, z3b⟩, yb⟩) (first | (go_at_call 61; refine (impl_tally_isOrdered.calls a b c x false _ HT.out).mono ?_; rintro e w5 ⟨rfl, hb5⟩; have z0b := (hb5.cell (World.block_lt_of_cell? w4 _ z0)).trans z0; have z1b := (hb5.cell (World.block_lt_of_cell? w4 _ z1)).trans z1; have z2b := (hb5.cell (World.block_lt_of_cell? w4 _ z2)).trans z2; have z3b := (hb5.cell (World.block_lt_of_cell? w4 _ z3)).trans z3; have yb := (hb5.cell (World.block_lt_of_cell? w4 _ y3)).trans y3; have HB5 := Aside0.mk hb5; clear hb5))
    have HBN5 := Aside0.mk (blk_below (blk_drew HBN4.out) HB5.out)
    have HBR5 := Aside0.mk (blk_below (blk_drew HBR4.out) HB5.out)
    have HE5 := Aside0.mk (HE4.out.drew.below HB5.out)
    have HGB := Aside0.mk (grown_below (grown_drew HGA.out) HB5.out)
    clear z0 z1 z2 z3 y3 yb
    clear z0b z1b z2b z3b
    go_wp2_with (first | ((with_reducible refine gate_dst (N := 27) rfl ?_); refine zLoadBox4 (t := 60) (e := 3) rfl rfl Try.underlying60 (by kernel_rfl) rfl HBN5.out ?_) | ((with_reducible refine gate_store (t := 60) (p := 8) rfl ?_); refine zStoreBox4 (t := 60) rfl rfl rfl (by kernel_rfl) rfl rfl HBR5.out ?_; intro w6 hs hg; have HBR6 := Aside0.mk hs; have HG6 := Aside0.mk hg; clear hs hg))
    refine bodyPost_ret (results_ct rfl _ _ gr 60 #[.int .i64 a, .int .i64 b, .int .i64 c, .int .i64 x] (0, 0) _ rfl HBR6.out Try.underlying60 rfl (by kernel_rfl)) rfl ?_
    exact ⟨rfl, grown_own HGB.out HG6.out HWN.out.2, n, HP.out, HE5.out.grown HG6.out (HE0.out.off HWN.out.2)⟩
  · have q1b : decide (x > g3) = false := decide_eq_false q1
    have q1c : decide (g3 < x) = false := decide_eq_false q1
    have HT := Aside0.mk q2
    have HQ := Aside0.mk q3
    clear q3
    clear q1 q2
    go_region_held3 (fun w' => (w'.cell? ⟨gn, 0, none⟩ = some (.int .i64 a) ∧ w'.cell? ⟨gn, 1, none⟩ = some (.int .i64 b) ∧ w'.cell? ⟨gn, 2, none⟩ = some (.int .i64 c) ∧ w'.cell? ⟨gn, 3, none⟩ = some (.int .i64 x)) ∧ w'.cell? ⟨gg, 3, none⟩ = some (.int .i64 g3)) (first | exact ⟨⟨z0, z1, z2, z3⟩, y3⟩ | exact ⟨⟨z0b, z1b, z2b, z3b⟩, yb⟩) (first | (go_at_call 61; refine (impl_tally_isOrdered.calls a b c x true _ HT.out).mono ?_; rintro e w5 ⟨rfl, hb5⟩; have z0b := (hb5.cell (World.block_lt_of_cell? w4 _ z0)).trans z0; have z1b := (hb5.cell (World.block_lt_of_cell? w4 _ z1)).trans z1; have z2b := (hb5.cell (World.block_lt_of_cell? w4 _ z2)).trans z2; have z3b := (hb5.cell (World.block_lt_of_cell? w4 _ z3)).trans z3; have yb := (hb5.cell (World.block_lt_of_cell? w4 _ y3)).trans y3; have HB5 := Aside0.mk hb5; clear hb5))
    have HBN5 := Aside0.mk (blk_below (blk_drew HBN4.out) HB5.out)
    have HBR5 := Aside0.mk (blk_below (blk_drew HBR4.out) HB5.out)
    have HE5 := Aside0.mk (HE4.out.drew.below HB5.out)
    have HGB := Aside0.mk (grown_below (grown_drew HGA.out) HB5.out)
    clear z0 z1 z2 z3 y3 yb
    go_upto_region 4 with (fail)
    clear HE1 HE2 HE3 HBG HBG2 HBG3 HBG4 HBN HBN3 HBN4 HBN5 HBR HBR4 HB1 HB2 HB3 HG4 HGA HE4 HB5 HT HX1
    have v0 : w5.cell? ⟨gr, 0, none⟩ = some (.int .i64 0) := (blk_cell HBR5.out 0).trans rfl
    have f0 : w5.frozen? ⟨gr, 0, none⟩ = false := blk_frozen HBR5.out 0
    have v1 : w5.cell? ⟨gr, 1, none⟩ = some (.int .i64 0) := (blk_cell HBR5.out 1).trans rfl
    have f1 : w5.frozen? ⟨gr, 1, none⟩ = false := blk_frozen HBR5.out 1
    have v2 : w5.cell? ⟨gr, 2, none⟩ = some (.int .i64 0) := (blk_cell HBR5.out 2).trans rfl
    have f2 : w5.frozen? ⟨gr, 2, none⟩ = false := blk_frozen HBR5.out 2
    have v3 : w5.cell? ⟨gr, 3, none⟩ = some (.int .i64 0) := (blk_cell HBR5.out 3).trans rfl
    have f3 : w5.frozen? ⟨gr, 3, none⟩ = false := blk_frozen HBR5.out 3
    go_region_held3 (fun w' => w'.cell? ⟨gn, 0, none⟩ = some (.int .i64 a) ∧ w'.cell? ⟨gn, 1, none⟩ = some (.int .i64 b) ∧ w'.cell? ⟨gn, 2, none⟩ = some (.int .i64 c) ∧ w'.cell? ⟨gn, 3, none⟩ = some (.int .i64 x)) (first | (with_reducible exact ⟨z0b, z1b, z2b, z3b⟩) | (with_reducible exact ⟨z0c, z1c, z2c, z3c⟩) | (with_reducible refine ⟨cell_set4 HN.out.1 z0c, cell_set4 HN.out.1 z1c, cell_set4 HN.out.1 z2c, cell_set4 HN.out.1 z3c⟩) | exact ⟨z0b, z1b, z2b, z3b⟩ | fail) (first | (go_at_fn 83; refine (impl_votesOn_2.Env.call (bg := bg) (bk := bk) (bf := bf) (B := B) (n := n) ?hE k hn a b c x r5 wa wb wc wx HQ.out).mono ?_; (case hE => exact (by first | exact HE5.out.drew | exact HE5.out | exact (((HE5.out.set (HE0.out.off HWN.out.2) _).set (HE0.out.off HWN.out.2) _).set (HE0.out.off HWN.out.2) _).set (HE0.out.off HWN.out.2) _ | exact ((((HE5.out.set (HE0.out.off HWN.out.2) _).set (HE0.out.off HWN.out.2) _).set (HE0.out.off HWN.out.2) _).set (HE0.out.off HWN.out.2) _).drew)); rintro e w7 ⟨rfl, hg7, n7, hn7, hE7⟩; have HG7 := Aside0.mk hg7; have HN7 := Aside0.mk hn7; have HE7 := Aside0.mk hE7; have z0c : w7.cell? ⟨gn, 0, none⟩ = some (.int .i64 a) := hg7.cell (by exact z0b) (fun e => (HE0.out.off HWN.out.1).2.2.2 (Option.some.inj e)); have z1c : w7.cell? ⟨gn, 1, none⟩ = some (.int .i64 b) := hg7.cell (by exact z1b) (fun e => (HE0.out.off HWN.out.1).2.2.2 (Option.some.inj e)); have z2c : w7.cell? ⟨gn, 2, none⟩ = some (.int .i64 c) := hg7.cell (by exact z2b) (fun e => (HE0.out.off HWN.out.1).2.2.2 (Option.some.inj e)); have z3c : w7.cell? ⟨gn, 3, none⟩ = some (.int .i64 x) := hg7.cell (by exact z3b) (fun e => (HE0.out.off HWN.out.1).2.2.2 (Option.some.inj e)); have BRc := Aside0.mk (show w7.heap[gr]? = some (.cells #[.int .i64 0, .int .i64 0, .int .i64 0, .int .i64 0] 60 (0, 0)) from (hg7.block gr (by exact blk_lt HBR5.out) (fun e => (HE0.out.off HWN.out.2).2.2.2 (Option.some.inj e))).trans (by exact HBR5.out)); have v0c : w7.cell? ⟨gr, 0, none⟩ = some (.int .i64 0) := (blk_cell BRc.out 0).trans rfl; have f0c := blk_frozen BRc.out 0; have v1c : w7.cell? ⟨gr, 1, none⟩ = some (.int .i64 0) := (blk_cell BRc.out 1).trans rfl; have f1c := blk_frozen BRc.out 1; have v2c : w7.cell? ⟨gr, 2, none⟩ = some (.int .i64 0) := (blk_cell BRc.out 2).trans rfl; have f2c := blk_frozen BRc.out 2; have v3c : w7.cell? ⟨gr, 3, none⟩ = some (.int .i64 0) := (blk_cell BRc.out 3).trans rfl; have f3c := blk_frozen BRc.out 3; clear hg7 hn7 hE7))
    go_wp2
    refine bodyPost_ret (results_ct rfl _ _ gr 60 #[.int .i64 a, .int .i64 b, .int .i64 c, .int .i64 x] (0, 0) _ rfl (blk_set (blk_set (blk_set (blk_set BRc.out 0 _) 1 _) 2 _) 3 _) Try.underlying60 rfl (by kernel_rfl)) rfl ?_
    have ho := HE0.out.off HWN.out.2
    exact ⟨rfl, grown_set (grown_set (grown_set (grown_set ((grown_drew HGB.out).trans HG7.out) HWN.out.2 _) HWN.out.2 _) HWN.out.2 _) HWN.out.2 _, n7, HN7.out, (((HE7.out.set ho _).set ho _).set ho _).set ho _⟩
theorem impl_step.calls {bg bk bf B n : Nat} (g0 g1 g2 g3 a b c d i r1 r2 r3 r4 r5 : Int) (k : Nat) (w : World) (hE : impl_votesOn_2.Env w bg bk bf B g0 g1 g2 g3 n) (hn : n + 8 ^ k ≤ maxLen) (wa : (Lit.int .i64 a).wf = true) (wb : (Lit.int .i64 b).wf = true) (wc : (Lit.int .i64 c).wf = true) (wd : (Lit.int .i64 d).wf = true) (h : impl_step.f k g0 g1 g2 g3 a b c d i = some (r1, r2, r3, r4, r5)) :
    Calls Try.prog 64 #[.func (.func 83) #[] #[.pointer (some ⟨bg, 0, none⟩), .pointer (some ⟨bk, 0, none⟩), .pointer (some ⟨bf, 0, none⟩)], .agg #[.int .i64 g0, .int .i64 g1, .int .i64 g2, .int .i64 g3], .agg #[.int .i64 a, .int .i64 b, .int .i64 c, .int .i64 d], .int .i64 i] w fun e w' => e = .returned (.tuple #[.agg #[.int .i64 r1, .int .i64 r2, .int .i64 r3, .int .i64 r4], .int .i64 r5]) ∧ w.grownBy w' (some B) ∧ ∃ n', n' < n + 8 ^ k ∧ impl_votesOn_2.Env w' bg bk bf B g0 g1 g2 g3 n' := by
  unfold impl_step.f at h
  by_cases e0 : i = 0
  · rw [if_pos e0] at h; subst e0; exact impl_step.at0 g0 g1 g2 g3 a b c d _ r1 r2 r3 r4 r5 k w hE hn wa wb wc wd rfl h
  rw [if_neg e0] at h
  by_cases e1 : i = 1
  · rw [if_pos e1] at h; subst e1; exact impl_step.at1 g0 g1 g2 g3 a b c d _ r1 r2 r3 r4 r5 k w hE hn wa wb wc wd rfl h
  rw [if_neg e1] at h
  by_cases e2 : i = 2
  · rw [if_pos e2] at h; subst e2; exact impl_step.at2 g0 g1 g2 g3 a b c d _ r1 r2 r3 r4 r5 k w hE hn wa wb wc wd rfl h
  rw [if_neg e2] at h
  by_cases e3 : i = 3
  · rw [if_pos e3] at h; subst e3; exact impl_step.at3 g0 g1 g2 g3 a b c d _ r1 r2 r3 r4 r5 k w hE hn wa wb wc wd rfl h
  rw [if_neg e3] at h
  cases h

end Go.Proofs.Ytgpebahbeccniaa.QFnExactAllOrdered
