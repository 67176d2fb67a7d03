/- Written by a program of this repo (xprint: a turned copy of the kit's print, with our own templates in it); Lean checks all of it. -/
import Derived.Test.YtgpebahbeccniaaQFnExactCountByAreax0
import Derived.Test.YtgpebahbeccniaaQFnExactCountByAreax1
namespace Go.Proofs.Ytgpebahbeccniaa.QFnExactCountByArea
open Go.RowKit Go.Proofs.YtgpebahbeccniaaZ Go.Proofs.YtgpebahbeccniaaZm Go.Maps Go.Proofs.YtgpebahbeccniaaZc Go.Maps Go.Proofs.YtgpebahbeccniaaW.PrintWords Go.Proofs.YtgpebahbeccniaaW.PrintLast Go.Proofs.YtgpebahbeccniaaW.PrintMore
attribute [local go_sem] max2_int min2_int max_two min_two max_three min_three max_four min_four   -- for this text's walks alone
set_option linter.unusedVariables false
set_option linter.unusedSimpArgs false

/-! ### impl_CountByArea: function 8 -/
def impl_CountByArea.st (lim : Int) (g : Int → Int → Int) (h a : Int) : Int := if 0 ≤ h ∧ h ≤ lim then wrap64 (g (h - 1) (a - h) + g (h + 1) (a - h)) else 0
def impl_CountByArea.at (n : Int) : Nat → Int → Int → Int
  | 0, h, a => if h = 0 ∧ a = 0 then 1 else 0
  | i + 1, h, a => impl_CountByArea.st (2 * n - i - 1) (impl_CountByArea.at n i) h a
def impl_CountByArea.bd (i : Nat) (h a : Int) : Prop := (0 ≤ h ∧ h ≤ 30) ∧ 0 ≤ a ∧ a ≤ 30 * i
def impl_CountByArea.ms (n : Int) (v : Value) : Nat := match v with | .int _ i => (2 * n - i).toNat | _ => 0
theorem impl_CountByArea.ms_int (n i : Int) (q : IntKind) : impl_CountByArea.ms n (.int q i) = (2 * n - i).toNat := rfl
theorem impl_CountByArea.w0 : wrap64 (0 + 0) = 0 := by unfold wrap64; omega
theorem impl_CountByArea.at_out (n : Int) (hn : n ≤ 15) : ∀ (i : Nat) (h a : Int), ¬ impl_CountByArea.bd i h a → impl_CountByArea.at n i h a = 0
  | 0, h, a, hb => by
    unfold impl_CountByArea.at
    rw [if_neg]
    rintro ⟨rfl, rfl⟩
    exact hb (by unfold impl_CountByArea.bd; omega)
  | i + 1, h, a, hb => by
    unfold impl_CountByArea.at impl_CountByArea.st
    by_cases r : 0 ≤ h ∧ h ≤ 2 * n - i - 1
    · rw [if_pos r, impl_CountByArea.at_out n hn i (h - 1) (a - h) (by unfold impl_CountByArea.bd at hb ⊢; omega), impl_CountByArea.at_out n hn i (h + 1) (a - h) (by unfold impl_CountByArea.bd at hb ⊢; omega)]
      exact impl_CountByArea.w0
    · rw [if_neg r]
theorem impl_CountByArea.bd_key {i : Nat} {h a : Int} (hi : i ≤ 30) (hb : impl_CountByArea.bd i h a) : ∃ kl, keyOf Try.prog 53 (pv h a) = some kl := by
  unfold impl_CountByArea.bd at hb
  refine impl_CountByArea_1.key h a ?_ ?_
  · exact WalkArith.wf_i64 (by omega)
  · exact WalkArith.wf_i64 (by omega)
/-- Where only zeros are gone, next tells 0. -/
theorem impl_CountByArea.nx_start {n lim : Int} {i : Nat} (hn : n ≤ 15) (hi : i ≤ 30) {gone : Int → Int → Bool} (hz : ∀ x y kl, keyOf Try.prog 53 (pv x y) = some kl → gone x y = true → impl_CountByArea.at n i x y = 0) (h a : Int) : nx gone (impl_CountByArea.at n i) lim h a = 0 := by
  have hG : ∀ p q, G gone (impl_CountByArea.at n i) p q = 0 := fun p q => by
    unfold G
    by_cases e : gone p q = true
    · rw [if_pos e]
      by_cases hb : impl_CountByArea.bd i p q
      · obtain ⟨kl, hk⟩ := impl_CountByArea.bd_key hi hb
        exact hz p q kl hk e
      · exact impl_CountByArea.at_out n hn i p q hb
    · rw [if_neg e]
  unfold nx
  rw [hG, hG]
  split
  · exact impl_CountByArea.w0
  · rfl
/-- Where all is gone, next tells the next counts. -/
theorem impl_CountByArea.nx_end {n : Int} {i : Nat} (hn : n ≤ 15) (hi : i ≤ 30) {gone : Int → Int → Bool} (hz : ∀ x y kl, keyOf Try.prog 53 (pv x y) = some kl → gone x y = true) (h a : Int) : nx gone (impl_CountByArea.at n i) (2 * n - i - 1) h a = impl_CountByArea.at n (i + 1) h a := by
  have hG : ∀ p q, G gone (impl_CountByArea.at n i) p q = impl_CountByArea.at n i p q := fun p q => by
    unfold G
    by_cases e : gone p q = true
    · rw [if_pos e]
    · rw [if_neg e]
      by_cases hb : impl_CountByArea.bd i p q
      · obtain ⟨kl, hk⟩ := impl_CountByArea.bd_key hi hb
        exact absurd (hz p q kl hk) e
      · exact (impl_CountByArea.at_out n hn i p q hb).symm
  unfold nx
  rw [hG, hG]
  rfl
def impl_CountByArea.hh (x : Int) (j : Nat) : Int := if j = 0 then x - 1 else x + 1
/-- What next tells behind j of a round's two stores. -/
def impl_CountByArea.fj (lim x y c : Int) (f : Int → Int → Int) : Nat → Int → Int → Int
  | 0 => f
  | j + 1 => ad lim (impl_CountByArea.hh x j) (y + impl_CountByArea.hh x j) c (impl_CountByArea.fj lim x y c f j)
theorem impl_CountByArea.fj_two (lim x y c : Int) (f : Int → Int → Int) : impl_CountByArea.fj lim x y c f 2 = ad lim (x + 1) (y + (x + 1)) c (ad lim (x - 1) (y + (x - 1)) c f) := rfl
theorem impl_CountByArea.fj_in {lim x y c h : Int} {f : Int → Int → Int} {j : Nat} (e : h = impl_CountByArea.hh x j) (hl : 0 ≤ h ∧ h ≤ lim) (p q : Int) : impl_CountByArea.fj lim x y c f (j + 1) p q = if p = h ∧ q = y + h then wrap64 (impl_CountByArea.fj lim x y c f j h (y + h) + c) else impl_CountByArea.fj lim x y c f j p q := by
  show ad _ _ _ _ _ p q = _
  rw [← e, ad_at]
  by_cases r : p = h ∧ q = y + h
  · rw [if_pos r, if_pos ⟨hl, r⟩]
  · rw [if_neg r, if_neg (fun k => r k.2)]
theorem impl_CountByArea.fj_out {lim x y c h : Int} {f : Int → Int → Int} {j : Nat} (e : h = impl_CountByArea.hh x j) (hl : ¬ (0 ≤ h ∧ h ≤ lim)) : impl_CountByArea.fj lim x y c f (j + 1) = impl_CountByArea.fj lim x y c f j := by
  show ad _ _ _ _ _ = _
  rw [← e]
  unfold ad
  rw [if_neg hl]
def impl_CountByArea.of (n x : Int) : Option Int := if (Lit.int .i64 x).wf = true then some (impl_CountByArea.at n (2 * n).toNat 0 x) else none
theorem impl_CountByArea.hof {n : Int} {wr : World} {B m i c : Nat} (hC : Bx wr B 54 (.map (some m))) (hT : Tells Try.prog 53 3 wr m c (impl_CountByArea.at n (2 * n).toNat) (impl_CountByArea.bd i)) (x t : Int) (W : World) (hb : Below wr.heap.size wr W) (ht : impl_CountByArea.of n x = some t) :
    Calls Try.prog 34 (#[.int .i64 x] ++ #[.pointer (some ⟨B, 0, none⟩)]) W fun e w' => e = .returned (.int .i64 t) ∧ Below W.heap.size W w' := by
  unfold impl_CountByArea.of at ht
  by_cases hx : (Lit.int .i64 x).wf = true
  · rw [if_pos hx] at ht
    cases ht
    exact (impl_CountByArea_1.calls B m c _ _ x hx W ((hb.cell (p := ⟨B, 0, none⟩) hC.lt).trans hC.cell) (hT.below hb)).mono fun e w' ⟨he, hd⟩ => ⟨he, hd.below⟩
  · rw [if_neg hx] at ht
    cases ht
def impl_CountByArea.f (k : Nat) (a0 : Int) : Option (List Int × Bool) := (impl_isPairs.f a0).bind fun t => (if t = true then ((impl_numbers.f k (wrap64 (a0 * a0)) (fun x => impl_CountByArea.of a0 x)).bind fun l => (some (l, true))) else (some (([] : List Int), false)))
theorem impl_CountByArea.mono : ∀ a0 k, LeO (impl_CountByArea.f k a0) (impl_CountByArea.f (k + 1) a0) := by
  intro a0 k
  unfold impl_CountByArea.f
  exact LeO.bind (LeO.refl _) fun _ => LeO.ite (LeO.bind (impl_numbers.mono (fun x => LeO.refl _) _ _) fun _ => LeO.refl _) (LeO.refl _)
theorem impl_CountByArea.pairs {a0 : Int} (h : impl_isPairs.f a0 = some true) : 0 ≤ a0 ∧ a0 ≤ 15 := by
  unfold impl_isPairs.f impl_in.f at h
  by_cases c : (0 : Int) ≤ a0
  · rw [if_pos c] at h
    simp at h
    exact ⟨c, h⟩
  · rw [if_neg c] at h
    simp at h
set_option maxHeartbeats 400000 in
set_option maxRecDepth 100000 in
theorem impl_CountByArea.yes (k : Nat) (a0 : Int) (l : List Int) (w : World) (hn : 0 ≤ a0 ∧ a0 ≤ 15) (A2 : Aside0 (impl_isPairs.f a0 = some true)) (A3 : Aside0 (impl_numbers.f k (wrap64 (a0 * a0)) (fun x => impl_CountByArea.of a0 x) = some l)) :
    Calls Try.prog 8 #[.int .i64 a0] w fun e w' => ∃ v0_ : Value, e = .returned (.tuple #[v0_, .bool true]) ∧ Kd.R (Kd.int .i64) 3 w' w.heap.size (fun _ => True) v0_ l ∧ Below w.heap.size w w' := by
  have HB := Aside0.mk (Below.refl w.heap.size w)
  have hmf : ∀ (fn : Fn) (first cap : Array Value) (w : World), (Instr.makeFunc fn first cap).run Try.prog w = .ok (.func fn first cap) w := fun _ _ _ _ => rfl
  have hmm := @run_makeMap Try.prog
  obtain ⟨kl0, hk0⟩ := impl_CountByArea_1.key 0 0 (by decide) (by decide)
  obtain ⟨w2, hins, hT1, hg1⟩ := (Tells.made (P := Try.prog) (K := 53) (E := 3) (bd := impl_CountByArea.bd 0) w).put (t := 54) (x := 0) (y := 0) (c := 1) impl_CountByArea_1.law Try.underlying54 Try.underlying3 (by decide) hk0 (by decide) (by unfold impl_CountByArea.bd; omega)
  unfold pv at hins
  go_enter Try.func8, Try.ntmps8
  go_wp2_with (first | ((with_reducible refine gate_callee (f := 31) rfl ?_); refine goesL_ (some 5) rfl rfl Try.func31 (by kernel_rfl) rfl #[.int .i64 a0] rfl (by (try simp only [List.map_toArray, List.map_cons, List.map_nil]); first | done | rfl | (simp only [List.length_drop, List.length_take]; rfl)) ?_; (with_reducible refine (impl_isPairs.calls a0 true _ A2.out).mono ?_); rintro e w' ⟨rfl, ⟨nd, rfl⟩⟩; refine ⟨_, rfl, ?_⟩) | go_in)
  go_loopw [19] (fun v19 wr => ∃ (i : Nat) (m : Nat), v19 = .int .i64 (i : Int) ∧ (i : Int) ≤ 2 * a0 ∧ Bx wr w2.heap.size 54 (.map (some m)) ∧ Tells Try.prog 53 3 wr m (2 ^ i) (impl_CountByArea.at a0 i) (impl_CountByArea.bd i) ∧ w.heap.size ≤ m ∧ m ≠ w2.heap.size ∧ Below w.heap.size w wr)
    (fun v19 wr => impl_CountByArea.ms a0 v19)
  case atStart =>
    have hs1 : w.heap.size + 1 ≤ w2.heap.size := by have := hg1.size; simpa using this
    exact ⟨0, w.heap.size, rfl, by omega, Bx.new w2 _ _, hT1.alloc _, Nat.le_refl _, by omega, (((Below.refl w.heap.size w).alloc (Nat.le_refl _) _).grown hg1 (by simp) (fun j hj => by cases hj; exact Nat.le_refl _)).alloc (by omega) _⟩
  case round =>
    obtain ⟨i, m, rfl, hi, hC, hT, hm, hmC, hB⟩ := hrel
    by_cases c : (i : Int) < 2 * a0
    · have hCl := hC.lt
      have hmlt := hT.lt
      have hCc := hC.cell
      obtain ⟨w3, gone, cnt, hrange, hU, hz, hg3, hs3⟩ := (hT.alloc (.map #[] 0)).range impl_CountByArea_1.law Try.underlying54
      have hN : Tells Try.prog 53 3 w3 wr.heap.size 0 (fun _ _ => 0) (impl_CountByArea.bd (i + 1)) := (Tells.made wr).kept hg3 (by simp)
      have hC0 : Bx (wr.alloc (.map #[] 0)) w2.heap.size 54 (.map (some m)) := hC.kept (World.grownBy_alloc wr _ none) (by simp)
      have hC1 := hC0.cell
      have e1 : (wr.alloc (.map #[] 0)).heap.size = wr.heap.size + 1 := by simp
      rw [e1] at hrange hU hs3
      have hB3 : Below w.heap.size w w3 := (hB.alloc hB.size _).grown hg3 (by have := hB.size; omega) (fun j hj => by cases hj)
      have cb : decide ((i : Int) < 2 * a0) = true := decide_eq_true c
      obtain ⟨nb, hnb⟩ : ∃ nb, wr.heap.size = nb := ⟨_, rfl⟩
      have hnbw : w.heap.size ≤ nb := by have := hB.size; omega
      go_wp2
      go_loopw [25] (fun _ wq => ∃ (gone : Int → Int → Bool) (cnt n : Nat), Under Try.prog 53 3 wq m (wr.heap.size + 1) (2 ^ i) (impl_CountByArea.at a0 i) (impl_CountByArea.bd i) gone cnt ∧ Tells Try.prog 53 3 wq wr.heap.size n (nx gone (impl_CountByArea.at a0 i) (2 * a0 - i - 1)) (impl_CountByArea.bd (i + 1)) ∧ n + 2 * cnt ≤ 2 ^ (i + 1) ∧ Bx wq w2.heap.size 54 (.map (some m)) ∧ Below w.heap.size w wq ∧ wr.heap.size + 2 ≤ wq.heap.size)
        (fun _ wq => wq.rangeLeft m (wr.heap.size + 1))
      case atStart =>
        refine ⟨gone, cnt, 0, hU, hN.congr (fun x y kl _ => (impl_CountByArea.nx_start hn.2 (by omega) hz x y).symm), ?_, ?_, hB3, by omega⟩
        · have := hU.cnt_le; rw [Nat.pow_succ]; omega
        · exact hC0.kept hg3 (by simp)
      case round =>
        obtain ⟨gone, cnt, n, hU, hN, hcn, hC2, hB2, hs2⟩ := hrel
        rw [hnb] at hU hN hs2
        rcases hU.next impl_CountByArea_1.law Try.underlying3 0 with ⟨h0, hall, hrun⟩ | ⟨x, y, kl, w4, cnt', hkey, hgx, hbd, hwf, hrun, hU4, hlt, hg4, hs4, hen⟩
        · have c2 := hC2.cell
          have f2 := hC2.frozen
          go_wp2
          go_roundw
          case rel =>
            have hNe := hN.congr (fun x y kl hk => impl_CountByArea.nx_end (n := a0) hn.2 (i := i) (by omega) hall x y)
            exact ⟨i + 1, nb, by simp, by omega, hC2.set _, (hNe.mono (by omega)).setCell (by simp; omega) _, by have := hB.size; omega, by omega, hB2.setCell (by have := hg1.size; simp at this; simp; omega) _⟩
          case measure => rw [impl_CountByArea.ms_int, impl_CountByArea.ms_int]; omega
        have hwS := hB.size
        have hC4 : Bx w4 w2.heap.size 54 (.map (some m)) := hC2.kept hg4 (by simp; omega)
        have hN4 := hN.kept hg4 (by simp)
        have hB4 := hB2.grown hg4 (by omega) (fun j hj => by cases hj; omega)
        obtain ⟨⟨hx0, hx1⟩, hy0, hy1⟩ := hbd
        have hi30 : (i : Int) ≤ 30 := by omega
        unfold pv at hrun hen
        obtain ⟨pb, hpb⟩ : ∃ pb, wr.heap.size = pb := ⟨_, rfl⟩
        rw [hpb] at hs4 hs2
        go_wp2
        go_loopw [38] (fun v38 wi => ∃ j : Nat, v38 = .int .i64 (j : Int) ∧ j ≤ 2 ∧ Under Try.prog 53 3 wi m (nb + 1) (2 ^ i) (impl_CountByArea.at a0 i) (impl_CountByArea.bd i) (fun a b => gone a b || (decide (a = x) && decide (b = y))) cnt' ∧ Tells Try.prog 53 3 wi nb (n + j) (impl_CountByArea.fj (2 * a0 - i - 1) x y (impl_CountByArea.at a0 i x y) (nx gone (impl_CountByArea.at a0 i) (2 * a0 - i - 1)) j) (impl_CountByArea.bd (i + 1)) ∧ Bx wi w2.heap.size 54 (.map (some m)) ∧ Below w.heap.size w wi ∧ wi.cell? ⟨pb, 1, none⟩ = some (.int .i64 y) ∧ wi.cell? ⟨pb + 1, 0, none⟩ = some (.int .i64 (x - 1)) ∧ wi.cell? ⟨pb + 1, 1, none⟩ = some (.int .i64 (x + 1)) ∧ pb + 2 ≤ wi.heap.size)
          (fun v38 _ => impl_CountByArea.ms 1 v38)
        case atStart =>
          have ga := World.grownBy_alloc w4 (Obj.cells #[Value.int IntKind.i64 x, Value.int IntKind.i64 y] 53) none
          have gb := World.grownBy_alloc (w4.alloc (Obj.cells #[Value.int IntKind.i64 x, Value.int IntKind.i64 y] 53)) (Obj.cells #[Value.int IntKind.i64 (x - 1), Value.int IntKind.i64 (x + 1)] 3) none
          refine ⟨0, rfl, by omega, (hU4.kept ga (by simp) (by simp)).kept gb (by simp) (by simp), (hN4.kept ga (by simp)).kept gb (by simp), (hC4.kept ga (by simp)).kept gb (by simp), (hB4.grown ga (by omega) (fun j hj => by cases hj)).grown gb (by simp; omega) (fun j hj => by cases hj), ?_, ?_, ?_, ?_⟩
          · exact kept_cell (a := ⟨pb, 1, none⟩) (by rw [← hs4]; exact (blk_cell (blk_new w4 (.cells #[.int .i64 x, .int .i64 y] 53)) 1).trans rfl) gb (by simp)
          · have e2 : pb + 1 = (w4.alloc (Obj.cells #[Value.int IntKind.i64 x, Value.int IntKind.i64 y] 53)).heap.size := by simp; omega
            rw [e2]
            exact (blk_cell (blk_new _ (.cells #[.int .i64 (x - 1), .int .i64 (x + 1)] 3)) 0).trans rfl
          · have e2 : pb + 1 = (w4.alloc (Obj.cells #[Value.int IntKind.i64 x, Value.int IntKind.i64 y] 53)).heap.size := by simp; omega
            rw [e2]
            exact (blk_cell (blk_new _ (.cells #[.int .i64 (x - 1), .int .i64 (x + 1)] 3)) 1).trans rfl
          · simp; omega
        case round =>
          obtain ⟨j, rfl, hj, hU5, hN5, hC5, hB5, hp1, hs0, hs1, hsz⟩ := hrel
          by_cases cj : j < 2
          · obtain ⟨h, hh⟩ : ∃ h, Aside0 (h = impl_CountByArea.hh x j) := ⟨_, ⟨rfl⟩⟩
            have hhb : -1 ≤ h ∧ h ≤ 31 := by rw [hh.out]; unfold impl_CountByArea.hh; split <;> omega
            have hcell : ∀ p : Nat, p = j → wr.cell? ⟨pb + 1, p, none⟩ = some (.int .i64 h) := by
              rintro p rfl
              rw [hh.out]
              unfold impl_CountByArea.hh
              by_cases j0 : p = 0
              · subst j0; exact hs0
              · obtain rfl : p = 1 := by omega
                exact hs1
            have cb2 : decide ((j : Int) < 2) = true := decide_eq_true (by omega)
            have hws := hB5.size
            by_cases hin : 0 ≤ h ∧ h ≤ 2 * a0 - i - 1
            · have d1 : decide (0 ≤ h) = true := decide_eq_true hin.1
              have d2 : decide (h ≤ 2 * a0 - i - 1) = true := decide_eq_true hin.2
              obtain ⟨kl5, hk5⟩ := impl_CountByArea_1.key h (y + h) (WalkArith.wf_i64 (by omega)) (WalkArith.wf_i64 (by omega))
              have hbd5 : impl_CountByArea.bd (i + 1) h (y + h) := by unfold impl_CountByArea.bd; omega
              have hN5' := hN5.drew
              obtain ⟨w6, old, st, hme, hg6, hs6, hT6, hst⟩ := hN5'.entry impl_CountByArea_1.law Try.underlying54 Try.underlying3 (impl_CountByArea_1.zero _) (Nat.lt_of_le_of_lt (show n + j ≤ 2 ^ (i + 1) + 2 by omega) (by have : (2 : Nat) ^ (i + 1) ≤ 2 ^ 31 := Nat.pow_le_pow_right (by omega) (by omega); unfold maxLen; omega)) hk5 hbd5
              obtain ⟨hlk, _⟩ := hN5'.look impl_CountByArea_1.law Try.underlying54 Try.underlying3 (impl_CountByArea_1.zero _) hk5
              obtain ⟨hlk6, _⟩ := hT6.look impl_CountByArea_1.law Try.underlying54 Try.underlying3 (impl_CountByArea_1.zero _) hk5
              obtain ⟨w7, hes, hT7, hg7, hs7⟩ := hst _ (wrap64_wf (impl_CountByArea.fj (2 * a0 - i - 1) x y (impl_CountByArea.at a0 i x y) (nx gone (impl_CountByArea.at a0 i) (2 * a0 - i - 1)) j h (y + h) + impl_CountByArea.at a0 i x y)) w6 rfl
              unfold pv at hme hlk hlk6
              go_wp2
              go_region
              go_wp2
              go_roundw
              case rel =>
                have gd : wr.grownBy wr.drew (some nb) := ⟨rfl, rfl, rfl, Nat.le_refl _, fun _ _ _ => rfl⟩
                have gall : wr.grownBy w7 (some nb) := (gd.trans hg6).trans hg7
                exact ⟨j + 1, by simp, by omega, hU5.kept gall (by simp; omega) (by simp), hT7.congr (fun p q _ _ => (impl_CountByArea.fj_in hh.out hin p q).symm), hC5.kept gall (by simp; omega), hB5.grown gall (by omega) (fun r hr => by cases hr; omega), kept_cell hp1 gall (by simp; omega), kept_cell hs0 gall (by simp; omega), kept_cell hs1 gall (by simp; omega), by have := gall.size; omega⟩
              case measure => rw [impl_CountByArea.ms_int, impl_CountByArea.ms_int]; omega
            · by_cases h0 : 0 ≤ h
              · have d1 : decide (0 ≤ h) = true := decide_eq_true h0
                have d2 : decide (h ≤ 2 * a0 - i - 1) = false := decide_eq_false (fun q => hin ⟨h0, q⟩)
                go_wp2
                go_roundw
                case rel => exact ⟨j + 1, by simp, by omega, hU5, by rw [impl_CountByArea.fj_out hh.out hin]; exact hN5.mono (by omega), hC5, hB5, hp1, hs0, hs1, hsz⟩
                case measure => rw [impl_CountByArea.ms_int, impl_CountByArea.ms_int]; omega
              · have d1 : decide (0 ≤ h) = false := decide_eq_false h0
                go_wp2
                go_roundw
                case rel => exact ⟨j + 1, by simp, by omega, hU5, by rw [impl_CountByArea.fj_out hh.out hin]; exact hN5.mono (by omega), hC5, hB5, hp1, hs0, hs1, hsz⟩
                case measure => rw [impl_CountByArea.ms_int, impl_CountByArea.ms_int]; omega
          · obtain rfl : j = 2 := by omega
            go_wp2
            rw [hnb]
            exact ⟨⟨_, cnt', n + 2, hU5, hN5.congr (fun p q kl _ => by rw [impl_CountByArea.fj_two]; exact (nx_step gone _ _ x y hgx p q).symm), by omega, hC5, hB5, by omega⟩, by rw [hU5.left, hU.left]; exact hlt⟩
    · have cb : decide ((i : Int) < 2 * a0) = false := decide_eq_false c
      have HB := Aside0.mk hB
      obtain rfl : i = (2 * a0).toNat := by omega
      go_wp2_with (first | ((with_reducible refine gate_callee (f := 33) rfl ?_); refine goesL_ (some 68) rfl rfl Try.func33 (by kernel_rfl) rfl #[.int .i64 (wrap64 (a0 * a0)), .func (.func 34) #[] #[.pointer (some ⟨w2.heap.size, 0, none⟩)]] rfl (by (try simp only [List.map_toArray, List.map_cons, List.map_nil]); first | done | rfl | (simp only [List.length_drop, List.length_take]; rfl)) ?_; refine (impl_numbers.calls k (wrap64 (a0 * a0)) 34 #[.pointer (some ⟨w2.heap.size, 0, none⟩)] (fun x => impl_CountByArea.of a0 x) l _ (ent_of Try.func34 (by kernel_rfl) rfl) ?hof A3.out).mono ?_; (case hof => intro x t W hb ht; exact impl_CountByArea.hof hC hT x t W hb ht); rintro e w5 ⟨v0, rfl, hr, hb⟩; refine ⟨_, rfl, ?_⟩; have n0_ := Aside0.mk (Kd.R_lower hr (below_size (by repeat (first | (with_reducible first | exact HB.out | apply below_alloc | apply pw_below_drewN | apply below_drew1) | exact HB.out)))); have n1_ := Aside0.mk (below_step (by repeat (first | (with_reducible first | exact HB.out | apply below_alloc | apply pw_below_drewN | apply below_drew1) | exact HB.out)) hb); clear HB; have HO := n0_; have HB := n1_; clear n0_ n1_; clear hr hb))
      go_ret2
      exact ⟨_, by first | rfl | (simp; done) | (simp [*]; done), by (with_reducible repeat (first | apply Kd.R_alloc | apply Kd.R_drewN | apply Kd.R_drew)); exact HO.out, (by repeat (first | (with_reducible first | exact HB.out | apply below_alloc | apply pw_below_drewN | apply below_drew1) | exact HB.out))⟩
set_option maxHeartbeats 2000000 in
set_option maxRecDepth 100000 in
theorem impl_CountByArea.calls (k : Nat) (a0 : Int) (r1 : List Int) (r2 : Bool) (w : World) (h : impl_CountByArea.f k a0 = some (r1, r2)) :
    Calls Try.prog 8 #[.int .i64 a0] w fun e w' => ∃ v0_ : Value, e = .returned (.tuple #[v0_, .bool r2]) ∧ Kd.R (Kd.int .i64) 3 w' w.heap.size (fun _ => True) v0_ r1 ∧ Below w.heap.size w w' := by
  have HB := Aside0.mk (Below.refl w.heap.size w)
  have hmf : ∀ (fn : Fn) (first cap : Array Value) (w : World), (Instr.makeFunc fn first cap).run Try.prog w = .ok (.func fn first cap) w := fun _ _ _ _ => rfl
  have H := h
  clear h
  unfold impl_CountByArea.f at H
  replace H := Option.bind_eq_some_iff.mp H
  obtain ⟨t159, A20, H⟩ := H
  have A2 := Aside0.mk A20
  clear A20
  by_cases c3 : t159 = true
  · subst c3
    rw [if_pos rfl] at H
    replace H := Option.bind_eq_some_iff.mp H
    obtain ⟨l, A30, H⟩ := H
    have A3 := Aside0.mk A30
    clear A30
    simp only [Option.some.injEq, Prod.mk.injEq] at H
    obtain ⟨rfl, rfl⟩ := H
    exact impl_CountByArea.yes k a0 _ w (impl_CountByArea.pairs A2.out) A2 A3
  · replace c3 := Bool.eq_false_iff.mpr c3
    subst c3
    rw [if_neg (show ¬ (false = true) by decide)] at H
    simp only [Option.some.injEq, Prod.mk.injEq] at H
    obtain ⟨rfl, rfl⟩ := H
    go_enter Try.func8, Try.ntmps8
    go_wp2_with (first | ((with_reducible refine gate_callee (f := 31) rfl ?_); refine goesL_ (some 12) rfl rfl Try.func31 (by kernel_rfl) rfl #[.int .i64 a0] rfl (by (try simp only [List.map_toArray, List.map_cons, List.map_nil]); first | done | rfl | (simp only [List.length_drop, List.length_take]; rfl)) ?_; (with_reducible refine (impl_isPairs.calls a0 false _ A2.out).mono ?_); rintro e w' ⟨rfl, ⟨nd, rfl⟩⟩; refine ⟨_, rfl, ?_⟩))
    go_ret2
    exact ⟨_, by first | rfl | (simp; done) | (simp [*]; done), Kd.R_nil _ _ _ _ _, (by repeat (first | (with_reducible first | exact HB.out | apply below_alloc | apply pw_below_drewN | apply below_drew1) | exact HB.out))⟩

/-! ### laws_eqIntS: function 9 -/
def laws_eqIntS.l0 : Nat → List Int → List Int → Int → Option (Bool)
  | 0, _, _, _ => none
  | k + 1, x0, x1, x5 => if x5 < (x0.length : Int) then (if 0 ≤ x5 then (if x5 < (x1.length : Int) then (if (rd x0 x5) = (rd x1 x5) then (laws_eqIntS.l0 k x0 x1 (wrap64 (x5 + 1))) else (some false)) else (none)) else (none)) else (some true)
def laws_eqIntS.f (k : Nat) (l0 : List Int) (l1 : List Int) : Option (Bool) := if (l0.length : Int) = (l1.length : Int) then (laws_eqIntS.l0 k l0 l1 0) else (some false)
theorem laws_eqIntS.mono_l : ∀ k, (∀ y0 y1 y2, LeO (laws_eqIntS.l0 k y0 y1 y2) (laws_eqIntS.l0 (k + 1) y0 y1 y2))
  | 0 => fun _ _ _ r h => by simp [laws_eqIntS.l0] at h
  | k + 1 => by
    have ih0 := laws_eqIntS.mono_l k
    · intro y0 y1 y2
      unfold laws_eqIntS.l0
      repeat' first
      | (with_reducible exact ih0 _ _ _)
      | (with_reducible exact LeO.refl _)
      | (with_reducible exact LeO.none _)
      | (with_reducible refine LeO.ite ?_ ?_)
      | (with_reducible refine LeO.bind ?_ (fun _ => ?_))
      | exact ih0 _ _ _
      | exact LeO.none _
      | refine LeO.ite ?_ ?_
      | refine LeO.bind ?_ (fun _ => ?_)
theorem laws_eqIntS.mono : ∀ a0 a1 k, LeO (laws_eqIntS.f k a0 a1) (laws_eqIntS.f (k + 1) a0 a1) := by
  intro a0 a1 k
  have ih0 := laws_eqIntS.mono_l k
  unfold laws_eqIntS.f
  repeat' first
      | (with_reducible exact ih0 _ _ _)
      | (with_reducible exact LeO.refl _)
      | (with_reducible exact LeO.none _)
      | (with_reducible refine LeO.ite ?_ ?_)
      | (with_reducible refine LeO.bind ?_ (fun _ => ?_))
      | exact ih0 _ _ _
      | exact LeO.none _
      | refine LeO.ite ?_ ?_
      | refine LeO.bind ?_ (fun _ => ?_)
set_option maxHeartbeats 8000000 in
set_option maxRecDepth 100000 in
theorem laws_eqIntS.calls (k : Nat) (A0 : Option Addr) (c0 : Nat) (l0 : List Int) (A1 : Option Addr) (c1 : Nat) (l1 : List Int) (r : Bool) (w : World) (hr0 : Kd.C (Kd.int .i64) w A0 l0.length l0) (hc0 : l0.length ≤ c0) (hr1 : Kd.C (Kd.int .i64) w A1 l1.length l1) (hc1 : l1.length ≤ c1) (h : laws_eqIntS.f k l0 l1 = some r) :
    Calls Try.prog 9 #[.slice A0 l0.length c0, .slice A1 l1.length c1] w fun e w' => e = .returned (.bool r) ∧ Drawn0 w w' := by
  have HR0 := Aside0.mk hr0
  have HC0 := Aside0.mk hc0
  clear hr0 hc0
  have HR1 := Aside0.mk hr1
  have HC1 := Aside0.mk hc1
  clear hr1 hc1
  have H : (if (l0.length : Int) = (l1.length : Int) then (laws_eqIntS.l0 k l0 l1 0) else (some false)) = some r := h
  clear h
  by_cases c3 : (l0.length : Int) = (l1.length : Int)
  · rw [if_pos c3] at H
    have c3b0 : ((l0.length : Int) == (l1.length : Int)) = true := beq_iff_eq.mpr c3
    have c3b1 : ((l0.length : Int) != (l1.length : Int)) = false := bne_eq_false_iff_eq.mpr c3
    have c3b2 : (l0.length == l1.length) = true := by first | simpa using c3 | (simp at c3 ⊢; omega)
    clear c3
    have H' := Aside0.mk H
    clear H
    go_enter Try.func9, Try.ntmps9
    go_wp2
    repeat (go_quiet (fail); try go_wp2)
    go_loopg [5] k (fun kq v5 w' => ∃ (x5_1 : Int), v5 = .int .i64 x5_1 ∧ Aside0 (laws_eqIntS.l0 kq l0 l1 x5_1 = some r) ∧ Aside0 (kq ≤ k) ∧ Drawn0 w w')
    case atStart => exact ⟨(0), (by first | rfl | (simp; done) | (simp [*]; done)), H', ⟨Nat.le_refl _⟩, by repeat (first | exact Drawn0.refl _ | apply Drawn0.step)⟩
    case round =>
      clear H'
      try clear c1
      try clear p2
      try clear c3
      try clear c3b0
      try clear c3b1
      try clear c3b2
      obtain ⟨x5_1, rfl, HA, HK1, ⟨m1, rfl⟩⟩ := hrel
      cases gk with
      | zero => exact absurd HA.out (by simp [laws_eqIntS.l0])
      | succ k1 =>
        have H := HA.out
        clear HA
        simp only [laws_eqIntS.l0] at H
        by_cases c4 : x5_1 < (l0.length : Int)
        · rw [if_pos c4] at H
          have c4b0 : decide (x5_1 < (l0.length : Int)) = true := decide_eq_true c4
          clear c4
          by_cases c5 : 0 ≤ x5_1
          · rw [if_pos c5] at H
            have c5b0 : decide (0 ≤ x5_1) = true := decide_eq_true c5
            clear c5
            by_cases c6 : x5_1 < (l1.length : Int)
            · rw [if_pos c6] at H
              have c6b0 : decide (x5_1 < (l1.length : Int)) = true := decide_eq_true c6
              clear c6
              by_cases c7 : (rd l0 x5_1) = (rd l1 x5_1)
              · rw [if_pos c7] at H
                have c7b0 : ((rd l0 x5_1) == (rd l1 x5_1)) = true := beq_iff_eq.mpr c7
                have c7b1 : ((rd l0 x5_1) != (rd l1 x5_1)) = false := bne_eq_false_iff_eq.mpr c7
                clear c7
                have H' := Aside0.mk H
                clear H
                have p126 : 0 ≤ (x5_1 : Int) := of_decide_eq_true (by first | (with_reducible assumption) | assumption)
                have q126 : x5_1 < (l0.length : Int) := of_decide_eq_true (by first | (with_reducible assumption) | assumption)
                obtain ⟨ad126, e126, hx126_0⟩ := Kd.at_int HR0.out x5_1 p126 q126
                cases e126
                replace p126 := eq_true p126
                replace q126 := eq_true q126
                have p127 : 0 ≤ (x5_1 : Int) := of_decide_eq_true (by first | (with_reducible assumption) | assumption)
                have q127 : x5_1 < (l1.length : Int) := of_decide_eq_true (by first | (with_reducible assumption) | assumption)
                obtain ⟨ad127, e127, hx127_0⟩ := Kd.at_int HR1.out x5_1 p127 q127
                cases e127
                replace p127 := eq_true p127
                replace q127 := eq_true q127
                go_wp2
                repeat (go_quiet (fail); try go_wp2)
                go_roundg k1
                case measure => have := HK1.out; omega
                case rel => exact ⟨(wrap64 (x5_1 + 1)), (by first | rfl | (simp; done) | (simp [*]; done)), H', ⟨by have := HK1.out; omega⟩, by repeat (first | exact Drawn0.refl _ | apply Drawn0.step)⟩
              · rw [if_neg c7] at H
                have c7b0 : ((rd l0 x5_1) == (rd l1 x5_1)) = false := beq_eq_false_iff_ne.mpr c7
                have c7b1 : ((rd l0 x5_1) != (rd l1 x5_1)) = true := bne_iff_ne.mpr c7
                obtain rfl := Option.some.inj H
                have p126 : 0 ≤ (x5_1 : Int) := of_decide_eq_true (by first | (with_reducible assumption) | assumption)
                have q126 : x5_1 < (l0.length : Int) := of_decide_eq_true (by first | (with_reducible assumption) | assumption)
                obtain ⟨ad126, e126, hx126_0⟩ := Kd.at_int HR0.out x5_1 p126 q126
                cases e126
                replace p126 := eq_true p126
                replace q126 := eq_true q126
                have p127 : 0 ≤ (x5_1 : Int) := of_decide_eq_true (by first | (with_reducible assumption) | assumption)
                have q127 : x5_1 < (l1.length : Int) := of_decide_eq_true (by first | (with_reducible assumption) | assumption)
                obtain ⟨ad127, e127, hx127_0⟩ := Kd.at_int HR1.out x5_1 p127 q127
                cases e127
                replace p127 := eq_true p127
                replace q127 := eq_true q127
                go_wp2
                repeat (go_quiet (fail); try go_wp2)
                go_ret
                exact ⟨by first | rfl | (simp; done) | (simp [*]; done), by repeat (first | exact Drawn0.refl _ | apply Drawn0.step)⟩
            · rw [if_neg c6] at H
              exact absurd H (by simp)
          · rw [if_neg c5] at H
            exact absurd H (by simp)
        · rw [if_neg c4] at H
          have c4b0 : decide (x5_1 < (l0.length : Int)) = false := decide_eq_false c4
          clear c4
          obtain rfl := Option.some.inj H
          go_wp2
          repeat (go_quiet (fail); try go_wp2)
          go_ret
          exact ⟨by first | rfl | (simp; done) | (simp [*]; done), by repeat (first | exact Drawn0.refl _ | apply Drawn0.step)⟩
  · rw [if_neg c3] at H
    have c3b0 : ((l0.length : Int) == (l1.length : Int)) = false := beq_eq_false_iff_ne.mpr c3
    have c3b1 : ((l0.length : Int) != (l1.length : Int)) = true := bne_iff_ne.mpr c3
    have c3b2 : (l0.length == l1.length) = false := by first | simpa using c3 | (simp at c3 ⊢; omega)
    obtain rfl := Option.some.inj H
    go_enter Try.func9, Try.ntmps9
    go_wp2
    repeat (go_quiet (fail); try go_wp2)
    go_ret
    exact ⟨by first | rfl | (simp; done) | (simp [*]; done), by repeat (first | exact Drawn0.refl _ | apply Drawn0.step)⟩

/-! ### laws_markIntS: function 10 -/
def laws_markIntS.l0 : Nat → List Int → Int → Int → Option (Int × List Int)
  | 0, _, _, _ => none
  | k + 1, x0, x1, x5 => if x5 < (x0.length : Int) then (if 0 ≤ x5 then (laws_markIntS.l0 k (x0.set (x5 : Int).toNat x1) (wrap64 (x1 + 1)) (wrap64 (x5 + 1))) else (none)) else (some (x1, x0))
def laws_markIntS.f (k : Nat) (l0 : List Int) (a1 : Int) : Option (Int × List Int) := laws_markIntS.l0 k l0 a1 0
theorem laws_markIntS.mono_l : ∀ k, (∀ y0 y1 y2, LeO (laws_markIntS.l0 k y0 y1 y2) (laws_markIntS.l0 (k + 1) y0 y1 y2))
  | 0 => fun _ _ _ r h => by simp [laws_markIntS.l0] at h
  | k + 1 => by
    have ih0 := laws_markIntS.mono_l k
    · intro y0 y1 y2
      unfold laws_markIntS.l0
      repeat' first
      | (with_reducible exact ih0 _ _ _)
      | (with_reducible exact LeO.refl _)
      | (with_reducible exact LeO.none _)
      | (with_reducible refine LeO.ite ?_ ?_)
      | (with_reducible refine LeO.bind ?_ (fun _ => ?_))
      | exact ih0 _ _ _
      | exact LeO.none _
      | refine LeO.ite ?_ ?_
      | refine LeO.bind ?_ (fun _ => ?_)
theorem laws_markIntS.mono : ∀ a0 a1 k, LeO (laws_markIntS.f k a0 a1) (laws_markIntS.f (k + 1) a0 a1) := by
  intro a0 a1 k
  have ih0 := laws_markIntS.mono_l k
  unfold laws_markIntS.f
  repeat' first
      | (with_reducible exact ih0 _ _ _)
      | (with_reducible exact LeO.refl _)
      | (with_reducible exact LeO.none _)
      | (with_reducible refine LeO.ite ?_ ?_)
      | (with_reducible refine LeO.bind ?_ (fun _ => ?_))
      | exact ih0 _ _ _
      | exact LeO.none _
      | refine LeO.ite ?_ ?_
      | refine LeO.bind ?_ (fun _ => ?_)
set_option maxHeartbeats 8000000 in
set_option maxRecDepth 100000 in
theorem laws_markIntS.calls {eB_ : Nat} (k : Nat) (P0_ : Nat → Prop) (u9000_ : Value) (l0 : List Int) (a1 : Int) (r1 : Int) (r2 : List Int) (w0 w : World) (hB : Below w0.heap.size w0 w) (ho0 : Kd.R (Kd.int .i64) eB_ w w0.heap.size P0_ u9000_ l0) (h : laws_markIntS.f k l0 a1 = some (r1, r2)) :
    Calls Try.prog 10 #[u9000_, .int .i64 a1] w fun e w' => e = .returned (.int .i64 r1) ∧ Kd.R (Kd.int .i64) eB_ w' w0.heap.size (fun k_ => (P0_ k_ ∨ w.heap.size ≤ k_)) u9000_ r2 ∧ Below w0.heap.size w0 w' ∧ Kept w w' (fun k_ => P0_ k_) := by
  have HO0 := Aside0.mk (show Kd.R (Kd.int .i64) eB_ w w0.heap.size (fun k_ => (P0_ k_ ∨ w.heap.size ≤ k_)) u9000_ l0 from Kd.R_mono ho0 (fun k_ hk => (.inl hk)))
  have HK := Aside0.mk (Kept.refl w (fun k_ => P0_ k_))
  have HW0 := Aside0.mk hB.size
  have HB := Aside0.mk hB
  clear hB
  have H : (laws_markIntS.l0 k l0 a1 0) = some (r1, r2) := h
  clear h
  have H' := Aside0.mk H
  clear H
  go_enter Try.func10, Try.ntmps10
  go_wp2
  go_loopg [1, 5] k (fun kq v1 v5 w' => ∃ (x0_1 : List Int) (x1_1 : Int) (x5_1 : Int), v1 = .int .i64 x1_1 ∧ v5 = .int .i64 x5_1 ∧ Aside0 (laws_markIntS.l0 kq x0_1 x1_1 x5_1 = some (r1, r2)) ∧ Aside0 (kq ≤ k) ∧ Aside0 (Kd.R (Kd.int .i64) eB_ w' w0.heap.size (fun k_ => (P0_ k_ ∨ w.heap.size ≤ k_)) u9000_ x0_1) ∧ Aside0 (Kept w w' (fun k_ => P0_ k_)) ∧ Aside0 (Below w0.heap.size w0 w'))
  case atStart => exact ⟨(l0), (a1), (0), (by first | rfl | (simp; done) | (simp [*]; done)), (by first | rfl | (simp; done) | (simp [*]; done)), H', ⟨Nat.le_refl _⟩, ⟨by (with_reducible repeat (first | apply Kd.R_alloc | apply Kd.R_drewN | apply Kd.R_drew)); exact HO0.out⟩, ⟨by repeat (first | (with_reducible first | exact HK.out | apply Kept.alloc | apply Kept.drewN | apply Kept.drew) | exact HK.out)⟩, ⟨by repeat (first | (with_reducible first | exact HB.out | apply below_alloc | apply pw_below_drewN | apply below_drew1) | exact HB.out)⟩⟩
  case round =>
    clear H'
    try clear c1
    try clear p2
    obtain ⟨x0_1, x1_1, x5_1, rfl, rfl, HA, HK1, HO_0, HK, HB⟩ := hrel
    cases gk with
    | zero => exact absurd HA.out (by simp [laws_markIntS.l0])
    | succ k1 =>
      have H := HA.out
      clear HA
      simp only [laws_markIntS.l0] at H
      by_cases c3 : x5_1 < (x0_1.length : Int)
      · rw [if_pos c3] at H
        have c3b0 : decide (x5_1 < (x0_1.length : Int)) = true := decide_eq_true c3
        clear c3
        by_cases c4 : 0 ≤ x5_1
        · rw [if_pos c4] at H
          have c4b0 : decide (0 ≤ x5_1) = true := decide_eq_true c4
          clear c4
          obtain ⟨y128, hy128⟩ : ∃ y_ : List Int, y_ = (x0_1.set (x5_1 : Int).toNat x1_1) := ⟨_, rfl⟩
          replace H : (laws_markIntS.l0 k1 y128 (wrap64 (x1_1 + 1)) (wrap64 (x5_1 + 1))) = some (r1, r2) := by first | (rw [hy128]; with_reducible exact H) | (have H2_ := (Option.bind_some _ _).symm.trans H; rw [hy128]; with_reducible exact H2_) | (have H2_ := (Option.bind_some _ _).symm.trans H; with_reducible exact H2_) | with_reducible exact H | (rw [hy128]; exact H) | exact H
          have Ny128 := Aside0.mk hy128
          clear hy128
          have H' := Aside0.mk H
          clear H
          obtain ⟨Ao6, co6, eo6⟩ := Kd.R_slice HO_0.out
          subst eo6
          have p5 : 0 ≤ (x5_1 : Int) := of_decide_eq_true (by first | (with_reducible assumption) | assumption)
          have q5 : (x5_1 : Int) < ((x0_1.length : Int) : Int) := of_decide_eq_true (by first | (with_reducible assumption) | assumption)
          obtain ⟨go5, co5, eo5, gb5, gl5, cl5, HG5⟩ := Kd.R_form HO_0.out (by omega)
          (first | cases eo5 | (injection eo5 with ea_ en_ ec_; (first | subst ea_ | (injection ea_ with ea_; subst ea_)); subst ec_; clear en_))
          have GB5 := Aside0.mk gb5
          have GG5 := Aside0.mk HG5
          clear gb5 gl5 HG5
          have HMgo5 := Aside0.mk (show (P0_ go5 ∨ w.heap.size ≤ go5) from (HO_0.out.1 _ rfl))
          obtain ⟨hx5_0, hf5_0⟩ := Kd.R_celln 0 HO_0.out (x5_1 : Int) p5 q5
          replace p5 := eq_true p5
          replace q5 := eq_true q5
          have HP7 := Kd.R_putg HO_0.out (x5_1 : Int) x1_1
          go_wp2_with (first | ((with_reducible refine gate_store (t := 3) (p := 15) rfl ?_); refine store_event (t := 3) (p := 15) (v := ?vo_w8) (w1 := (wr.setCell ⟨go5, (x5_1 : Int).toNat, none⟩ (.int .i64 x1_1))) ?hg ?ho ?hn ?hr ?_; (case ho => rfl); (case hg => rfl); (case hn => rfl); (case hr => first | (go_simp; done) | (go_simp; rfl)); intro w8 hw; have hg : wr.grownBy w8 (some go5) := (by rw [hw]; exact HP7.2); have hp_ : Kd.R (Kd.int .i64) eB_ w8 w0.heap.size (fun k_ => (P0_ k_ ∨ w.heap.size ≤ k_)) (.slice (some ⟨go5, 0, none⟩) x0_1.length co6) y128 := (by rw [hw, Ny128.out]; exact HP7.1); clear HP7; have n0_ := Aside0.mk (hp_); have n1_ := Aside0.mk ((by rw [hw]; exact below_set (HB.out) GB5.out : Below w0.heap.size w0 w8)); have n2_ := Aside0.mk (Kept.of_grown (S := (fun k_ => P0_ k_)) hg (by repeat (first | (with_reducible first | exact HK.out | apply Kept.alloc | apply Kept.drewN | apply Kept.drew) | exact HK.out)) (fun k_ e_ => (HO_0.out.1 k_ e_))); clear HO_0; clear HB; clear HK; have HO_0 := n0_; have HB := n1_; have HK := n2_; clear n0_ n1_ n2_; clear hg hw hp_))
          go_roundg k1
          case measure => have := HK1.out; omega
          case rel => exact ⟨(y128), (wrap64 (x1_1 + 1)), (wrap64 (x5_1 + 1)), (by first | rfl | (simp; done) | (simp [*]; done)), (by first | rfl | (simp; done) | (simp [*]; done)), H', ⟨by have := HK1.out; omega⟩, ⟨by (with_reducible repeat (first | apply Kd.R_alloc | apply Kd.R_drewN | apply Kd.R_drew)); exact HO_0.out⟩, ⟨by repeat (first | (with_reducible first | exact HK.out | apply Kept.alloc | apply Kept.drewN | apply Kept.drew) | exact HK.out)⟩, ⟨by repeat (first | (with_reducible first | exact HB.out | apply below_alloc | apply pw_below_drewN | apply below_drew1) | exact HB.out)⟩⟩
        · rw [if_neg c4] at H
          exact absurd H (by simp)
      · rw [if_neg c3] at H
        have c3b0 : decide (x5_1 < (x0_1.length : Int)) = false := decide_eq_false c3
        clear c3
        simp only [Option.some.injEq, Prod.mk.injEq] at H
        obtain ⟨rfl, rfl⟩ := H
        obtain ⟨Ao9, co9, eo9⟩ := Kd.R_slice HO_0.out
        subst eo9
        go_wp2
        go_ret
        exact ⟨by first | rfl | (simp [errW_none, errW_some] <;> rfl) | (simp [*, errW_none, errW_some] <;> rfl), by (with_reducible repeat (first | apply Kd.R_alloc | apply Kd.R_drewN | apply Kd.R_drew)); exact HO_0.out, by repeat (first | (with_reducible first | exact HB.out | apply below_alloc | apply pw_below_drewN | apply below_drew1) | exact HB.out), by repeat (first | (with_reducible first | exact HK.out | apply Kept.alloc | apply Kept.drewN | apply Kept.drew) | exact HK.out)⟩

/-! ### laws_heldIntS: function 11 -/
def laws_heldIntS.l0 : Nat → List Int → Int → Int → Option (Int)
  | 0, _, _, _ => none
  | k + 1, x0, x1, x5 => if x5 < (x0.length : Int) then (if 0 ≤ x5 then (if (rd x0 x5) = x1 then (laws_heldIntS.l0 k x0 (wrap64 (x1 + 1)) (wrap64 (x5 + 1))) else (some (-1))) else (none)) else (some x1)
def laws_heldIntS.f (k : Nat) (l0 : List Int) (a1 : Int) : Option (Int) := laws_heldIntS.l0 k l0 a1 0
theorem laws_heldIntS.mono_l : ∀ k, (∀ y0 y1 y2, LeO (laws_heldIntS.l0 k y0 y1 y2) (laws_heldIntS.l0 (k + 1) y0 y1 y2))
  | 0 => fun _ _ _ r h => by simp [laws_heldIntS.l0] at h
  | k + 1 => by
    have ih0 := laws_heldIntS.mono_l k
    · intro y0 y1 y2
      unfold laws_heldIntS.l0
      repeat' first
      | (with_reducible exact ih0 _ _ _)
      | (with_reducible exact LeO.refl _)
      | (with_reducible exact LeO.none _)
      | (with_reducible refine LeO.ite ?_ ?_)
      | (with_reducible refine LeO.bind ?_ (fun _ => ?_))
      | exact ih0 _ _ _
      | exact LeO.none _
      | refine LeO.ite ?_ ?_
      | refine LeO.bind ?_ (fun _ => ?_)
theorem laws_heldIntS.mono : ∀ a0 a1 k, LeO (laws_heldIntS.f k a0 a1) (laws_heldIntS.f (k + 1) a0 a1) := by
  intro a0 a1 k
  have ih0 := laws_heldIntS.mono_l k
  unfold laws_heldIntS.f
  repeat' first
      | (with_reducible exact ih0 _ _ _)
      | (with_reducible exact LeO.refl _)
      | (with_reducible exact LeO.none _)
      | (with_reducible refine LeO.ite ?_ ?_)
      | (with_reducible refine LeO.bind ?_ (fun _ => ?_))
      | exact ih0 _ _ _
      | exact LeO.none _
      | refine LeO.ite ?_ ?_
      | refine LeO.bind ?_ (fun _ => ?_)
set_option maxHeartbeats 8000000 in
set_option maxRecDepth 100000 in
theorem laws_heldIntS.calls (k : Nat) (A0 : Option Addr) (c0 : Nat) (l0 : List Int) (a1 : Int) (r : Int) (w : World) (hr0 : Kd.C (Kd.int .i64) w A0 l0.length l0) (hc0 : l0.length ≤ c0) (h : laws_heldIntS.f k l0 a1 = some r) :
    Calls Try.prog 11 #[.slice A0 l0.length c0, .int .i64 a1] w fun e w' => e = .returned (.int .i64 r) ∧ Drawn0 w w' := by
  have HR0 := Aside0.mk hr0
  have HC0 := Aside0.mk hc0
  clear hr0 hc0
  have H : (laws_heldIntS.l0 k l0 a1 0) = some r := h
  clear h
  have H' := Aside0.mk H
  clear H
  go_enter Try.func11, Try.ntmps11
  go_wp2
  go_loopg [1, 5] k (fun kq v1 v5 w' => ∃ (x1_1 : Int) (x5_1 : Int), v1 = .int .i64 x1_1 ∧ v5 = .int .i64 x5_1 ∧ Aside0 (laws_heldIntS.l0 kq l0 x1_1 x5_1 = some r) ∧ Aside0 (kq ≤ k) ∧ Drawn0 w w')
  case atStart => exact ⟨(a1), (0), (by first | rfl | (simp; done) | (simp [*]; done)), (by first | rfl | (simp; done) | (simp [*]; done)), H', ⟨Nat.le_refl _⟩, by repeat (first | exact Drawn0.refl _ | apply Drawn0.step)⟩
  case round =>
    clear H'
    try clear c1
    try clear p2
    obtain ⟨x1_1, x5_1, rfl, rfl, HA, HK1, ⟨m1, rfl⟩⟩ := hrel
    cases gk with
    | zero => exact absurd HA.out (by simp [laws_heldIntS.l0])
    | succ k1 =>
      have H := HA.out
      clear HA
      simp only [laws_heldIntS.l0] at H
      by_cases c3 : x5_1 < (l0.length : Int)
      · rw [if_pos c3] at H
        have c3b0 : decide (x5_1 < (l0.length : Int)) = true := decide_eq_true c3
        clear c3
        by_cases c4 : 0 ≤ x5_1
        · rw [if_pos c4] at H
          have c4b0 : decide (0 ≤ x5_1) = true := decide_eq_true c4
          clear c4
          by_cases c5 : (rd l0 x5_1) = x1_1
          · rw [if_pos c5] at H
            have c5b0 : ((rd l0 x5_1) == x1_1) = true := beq_iff_eq.mpr c5
            have c5b1 : ((rd l0 x5_1) != x1_1) = false := bne_eq_false_iff_eq.mpr c5
            clear c5
            have H' := Aside0.mk H
            clear H
            have p129 : 0 ≤ (x5_1 : Int) := of_decide_eq_true (by first | (with_reducible assumption) | assumption)
            have q129 : x5_1 < (l0.length : Int) := of_decide_eq_true (by first | (with_reducible assumption) | assumption)
            obtain ⟨ad129, e129, hx129_0⟩ := Kd.at_int HR0.out x5_1 p129 q129
            cases e129
            replace p129 := eq_true p129
            replace q129 := eq_true q129
            go_wp2
            go_roundg k1
            case measure => have := HK1.out; omega
            case rel => exact ⟨(wrap64 (x1_1 + 1)), (wrap64 (x5_1 + 1)), (by first | rfl | (simp; done) | (simp [*]; done)), (by first | rfl | (simp; done) | (simp [*]; done)), H', ⟨by have := HK1.out; omega⟩, by repeat (first | exact Drawn0.refl _ | apply Drawn0.step)⟩
          · rw [if_neg c5] at H
            have c5b0 : ((rd l0 x5_1) == x1_1) = false := beq_eq_false_iff_ne.mpr c5
            have c5b1 : ((rd l0 x5_1) != x1_1) = true := bne_iff_ne.mpr c5
            obtain rfl := Option.some.inj H
            have p129 : 0 ≤ (x5_1 : Int) := of_decide_eq_true (by first | (with_reducible assumption) | assumption)
            have q129 : x5_1 < (l0.length : Int) := of_decide_eq_true (by first | (with_reducible assumption) | assumption)
            obtain ⟨ad129, e129, hx129_0⟩ := Kd.at_int HR0.out x5_1 p129 q129
            cases e129
            replace p129 := eq_true p129
            replace q129 := eq_true q129
            go_wp2
            go_ret
            exact ⟨by first | rfl | (simp; done) | (simp [*]; done), by repeat (first | exact Drawn0.refl _ | apply Drawn0.step)⟩
        · rw [if_neg c4] at H
          exact absurd H (by simp)
      · rw [if_neg c3] at H
        have c3b0 : decide (x5_1 < (l0.length : Int)) = false := decide_eq_false c3
        clear c3
        obtain rfl := Option.some.inj H
        go_wp2
        go_ret
        exact ⟨by first | rfl | (simp; done) | (simp [*]; done), by repeat (first | exact Drawn0.refl _ | apply Drawn0.step)⟩

end Go.Proofs.Ytgpebahbeccniaa.QFnExactCountByArea
