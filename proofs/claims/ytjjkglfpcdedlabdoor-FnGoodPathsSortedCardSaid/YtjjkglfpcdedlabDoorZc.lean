/- Words of our own for walks: 'm[k] += v' (Op.mapEntry, Op.entryStore) and a map's literal (Op.insert) over a map that the call made: the same block stands behind them as behind 'm[k] = v'. Plain lemmas over any program. -/
import Derived.Test.YtjjkglfpcdedlabDoorZm
import Derived.Maps.RangeWalk
namespace Go.Proofs.YtjjkglfpcdedlabDoorZc
open Go Go.RowKit Go.Maps Go.ChangeMaps Go.MapKept
open Go.WideElems (Fit rd rg pl rd_val elemAt)
set_option linter.unusedVariables false
variable {P : Program} {k t e : TypeId} {w : World} {b : Nat} {R : Value → Option (DataW Unit × List MemPlace)}

theorem born_find (es : Array MapEntry) (j : Nat) (e0 : MapEntry) (hj : es[j]? = some e0) (hd : (es.toList.map (·.born)).Nodup) (f : MapEntry → MapEntry) (hf : ∀ x, (f x).born = x.born) : (es.modify j f).findIdx? (fun x => (x.born : Int) == ((e0.born : Nat) : Int)) = some j := by
  have hl : j < es.size := (Array.getElem?_eq_some_iff.1 hj).1
  have he : es[j] = e0 := (Array.getElem?_eq_some_iff.1 hj).2
  rw [Array.findIdx?_eq_some_iff_getElem]
  refine ⟨by simpa using hl, ?_, ?_⟩
  · rw [Array.getElem_modify]; simp [hf, he]
  · intro i hi
    rw [Array.getElem_modify, if_neg (by omega)]
    have hil : i < es.size := by omega
    have h2 := (List.pairwise_iff_getElem.1 hd) i j (by simpa using hil) (by simpa using hl) hi
    simp only [List.getElem_map, Array.getElem_toList, he] at h2
    simpa using fun h => h2 (by omega)

theorem entry_twin {es : Array MapEntry} {clock : Nat} (K : Keyed P k) (ht : P.underlying t = some (.map k e)) (hb : w.heap[b]? = some (.map es clock)) (F : Fit P k R es clock) {key : Value} {kl : Lit} (hkey : keyOf P k key = some kl) {z : Value} (hz : (zeroValue e).run P w = .ok z w) :
    ∃ (es1 : Array MapEntry) (clock1 : Nat) (old : Value) (st : Nat) (upd : Value → Array MapEntry), (Instr.mapEntry t (.map (some b)) key).run P w = .ok (.tuple #[old, .int .i64 ((st : Nat) : Int)]) (setBlock w b (.map es1 clock1)) ∧
      (Instr.lookup t (.map (some b)) key false).run P w = .ok old w ∧ upd old = es1 ∧
      (∀ val, (Instr.mapUpdate t (.map (some b)) key val).run P w = .ok () (setBlock w b (.map (upd val) clock1))) ∧
      ∀ val W, W.heap[b]? = some (.map es1 clock1) → (Instr.entryStore t (.map (some b)) (.int .i64 ((st : Nat) : Int)) val).run P W = .ok () (setBlock W b (.map (upd val) clock1)) := by
  obtain ⟨s1, s2, s3⟩ := F.stamped
  rcases K.find w hkey es.toList F.keys with ⟨h1, h2⟩ | ⟨j, e0, h1, h2, h3⟩
  · refine ⟨es.push ⟨key, z, clock⟩, clock + 1, z, clock, fun val => es.push ⟨key, val, clock⟩, ?_, ?_, rfl, fun val => ?_, fun val W hW => ?_⟩
    · simp [Instr.mapEntry, run_underlying ht, MapKept.run_getObj_map hb, K.check w false hkey, h1, hz, MapKept.run_setObj_map _ hb, Result.andThen, setBlock, goInt]
    · simp [Instr.lookup, run_underlying ht, MapKept.run_getObj_map hb, K.check w es.isEmpty hkey, h1, hz, Result.andThen]
    · simp [Instr.mapUpdate, run_underlying ht, MapKept.run_getObj_map hb, K.check w false hkey, h1, MapKept.run_setObj_map _ hb, Result.andThen, setBlock]
    · have e1 : (es.push ⟨key, z, clock⟩).findIdx? (fun x => (x.born : Int) == ((clock : Nat) : Int)) = some es.size := by
        rw [Array.findIdx?_eq_some_iff_getElem]
        refine ⟨by simp, by simp, fun i hi => ?_⟩
        have hm : es[i] ∈ es.toList := by simp
        have := s1 _ hm
        rw [Array.getElem_push_lt hi]
        simp; omega
      have e2 : (es.push ⟨key, z, clock⟩).modify es.size (fun x => { x with val := val }) = es.push ⟨key, val, clock⟩ := by
        apply Array.ext
        · simp
        · intro i hi hi'
          rw [Array.getElem_modify]
          by_cases h : es.size = i
          · subst h; simp
          · rw [if_neg h]
            simp at hi
            rw [Array.getElem_push_lt (by omega), Array.getElem_push_lt (by omega)]
      simp [Instr.entryStore, MapKept.run_getObj_map hW, asInt, asIntOf, e1, e2, MapKept.run_setObj_map _ hW, Result.andThen, setBlock]
  · have hj : es[j]? = some e0 := by simpa using h2
    refine ⟨es.modify j (fun x => { x with key := key }), clock, e0.val, e0.born, fun val => es.modify j (fun x => { x with key := key, val := val }), ?_, ?_, ?_, fun val => ?_, fun val W hW => ?_⟩
    · simp [Instr.mapEntry, run_underlying ht, MapKept.run_getObj_map hb, K.check w false hkey, h1, hj, h3, K.stays w hkey, MapKept.run_setObj_map _ hb, Result.andThen, setBlock, goInt]
    · simp [Instr.lookup, run_underlying ht, MapKept.run_getObj_map hb, K.check w es.isEmpty hkey, h1, Result.andThen]
    · apply Array.ext
      · simp
      · intro i hi hi'
        rw [Array.getElem_modify, Array.getElem_modify]
        by_cases h : j = i
        · subst h
          have : es[j]'(Array.getElem?_eq_some_iff.1 hj).1 = e0 := (Array.getElem?_eq_some_iff.1 hj).2
          simp [this]
        · simp [h]
    · simp [Instr.mapUpdate, run_underlying ht, MapKept.run_getObj_map hb, K.check w false hkey, h1, hj, h3, K.stays w hkey, MapKept.run_setObj_map _ hb, Result.andThen, setBlock]
    · have e1 := born_find es j e0 hj s2 (fun x => { x with key := key }) (fun _ => rfl)
      have e2 : (es.modify j (fun x => { x with key := key })).modify j (fun x => { x with val := val }) = es.modify j (fun x => { x with key := key, val := val }) := by
        apply Array.ext
        · simp
        · intro i hi hi'
          rw [Array.getElem_modify, Array.getElem_modify, Array.getElem_modify]
          by_cases h : j = i
          · subst h; simp
          · simp [h]
      simp [Instr.entryStore, MapKept.run_getObj_map hW, asInt, asIntOf, e1, e2, MapKept.run_setObj_map _ hW, Result.andThen, setBlock]

/-- 'm[k] += v': behind the two operations the map tells the value at the key; what stands between leaves its block be. -/
theorem ownsMap_entry {n : Nat} {D : DataW Unit} (h : w.ownsMap P k R b n D) (K : Keyed P k) (ht : P.underlying t = some (.map k e)) (hn : n < maxLen) {key : Value} {kl : Lit} (hkey : keyOf P k key = some kl) {z : Value} (hz : (zeroValue e).run P w = .ok z w) :
    ∃ (w1 : World) (old : Value) (st : Nat), (Instr.mapEntry t (.map (some b)) key).run P w = .ok (.tuple #[old, .int .i64 ((st : Nat) : Int)]) w1 ∧ w.grownBy w1 (some b) ∧ w1.heap.size = w.heap.size ∧
      (Instr.lookup t (.map (some b)) key false).run P w = .ok old w ∧ (∀ (d : DataW Unit) (ps : List MemPlace), R old = some (d, ps) → w1.ownsMap P k R b (n + 1) (D.put kl d)) ∧
      ∀ (val : Value) (d : DataW Unit) (ps : List MemPlace), R val = some (d, ps) → ∀ W : World, W.heap[b]? = w1.heap[b]? → ∃ W', (Instr.entryStore t (.map (some b)) (.int .i64 ((st : Nat) : Int)) val).run P W = .ok () W' ∧ W'.ownsMap P k R b (n + 1) (D.put kl d) ∧ W.grownBy W' (some b) ∧ W'.heap.size = W.heap.size := by
  have h' := h
  obtain ⟨es, clock, hb, F, hs, rfl⟩ := h
  obtain ⟨es1, clock1, old, st, upd, r1, r4, r5, r2, r3⟩ := entry_twin K ht hb F hkey hz
  refine ⟨_, old, st, r1, ⟨rfl, rfl, rfl, by simp [setBlock], fun i _ hi => heap_setBlock_other hb _ (fun e => hi (by rw [e]))⟩, by simp [setBlock], r4, fun d ps hv => ?_, fun val d ps hv W hW => ?_⟩
  · obtain ⟨w', u1, u2, _⟩ := h'.update K ht hn hkey hv
    rw [r2 old, r5] at u1
    injection u1 with _ u1
    rw [u1]
    exact u2
  rw [heap_setBlock_same hb] at hW
  refine ⟨_, r3 val W hW, ?_, ⟨rfl, rfl, rfl, by simp [setBlock], fun i _ hi => heap_setBlock_other hW _ (fun e => hi (by rw [e]))⟩, by simp [setBlock]⟩
  obtain ⟨w', u1, ⟨es2, clock2, hb2, F2, s2, D2⟩, u3⟩ := h'.update K ht hn hkey hv
  rw [r2 val] at u1
  injection u1 with _ u1
  subst u1
  rw [heap_setBlock_same hb] at hb2
  injection hb2 with hb2
  injection hb2 with q1 q2
  subst q1; subst q2
  exact ⟨_, _, heap_setBlock_same hW _, F2, s2, D2⟩

variable {K E : TypeId} {w' : World} {B n : Nat} {f : Int → Int → Int} {bd : Int → Int → Prop}
/-- A pair as a key. -/
def pv (h a : Int) : Value := .agg #[.int .i64 h, .int .i64 a]
theorem pv_inj {h a h' a' : Int} (e : pv h a = pv h' a') : h = h' ∧ a = a' := by
  simpa [pv] using e
/-- Block B is a map of at most n entries that tells f at every pair (0 where nothing stands); what it holds is within bd. -/
def Tells (P : Program) (K E : TypeId) (w : World) (B n : Nat) (f : Int → Int → Int) (bd : Int → Int → Prop) : Prop :=
  ∃ D : DataW Unit, w.ownsMap P K (plainElem P E) B n D ∧ (∀ key kl, keyOf P K key = some kl → Maps.has D kl = true → ∃ h a, key = pv h a ∧ bd h a) ∧ ∀ h a kl, keyOf P K (pv h a) = some kl → D.atKey kl (.lit (.int .i64 0)) = .lit (.int .i64 (f h a))
theorem Tells.made (w : World) : Tells P K E (w.alloc (.map #[] 0)) w.heap.size 0 (fun _ _ => 0) bd :=
  ⟨.map [], World.ownsMap_made _ _ _ _, fun key kl _ h => by simp [Maps.has_eq] at h, fun h a kl _ => Maps.atKey_of_not_has (by simp [Maps.has_eq]) _⟩
theorem Tells.lt (h : Tells P K E w B n f bd) : B < w.heap.size := by
  obtain ⟨D, h1, _⟩ := h
  exact h1.lt
theorem Tells.kept {row : Option Nat} (h : Tells P K E w B n f bd) (hg : w.grownBy w' row) (hne : some B ≠ row) : Tells P K E w' B n f bd := by
  obtain ⟨D, h1, h2⟩ := h
  exact ⟨D, h1.kept hg hne, h2⟩
theorem Tells.mono {n' : Nat} (h : Tells P K E w B n f bd) (hn : n ≤ n') : Tells P K E w B n' f bd := by
  obtain ⟨D, h1, h2⟩ := h
  exact ⟨D, h1.mono hn, h2⟩
theorem Tells.alloc (h : Tells P K E w B n f bd) (o : Obj) : Tells P K E (w.alloc o) B n f bd := by
  obtain ⟨D, h1, h2⟩ := h
  exact ⟨D, h1.alloc o, h2⟩
theorem Tells.drew (h : Tells P K E w B n f bd) : Tells P K E w.drew B n f bd := h
theorem Tells.drewN (h : Tells P K E w B n f bd) (m : Nat) : Tells P K E (w.drewN m) B n f bd := h
theorem Tells.setCell (h : Tells P K E w B n f bd) {a : Addr} (ha : B ≠ a.block) (u : Value) : Tells P K E (w.setCell a u) B n f bd := by
  obtain ⟨D, h1, h2⟩ := h
  exact ⟨D, h1.setCell ha u, h2⟩
theorem Tells.below (h : Tells P K E w B n f bd) (hb : Below w.heap.size w w') : Tells P K E w' B n f bd := by
  obtain ⟨D, ⟨es, clock, h3, r⟩, h2⟩ := h
  exact ⟨D, ⟨es, clock, (hb.block B (Array.getElem?_eq_some_iff.1 h3).1).trans h3, r⟩, h2⟩
theorem Tells.congr {g : Int → Int → Int} (h : Tells P K E w B n f bd) (e : ∀ x y kl, keyOf P K (pv x y) = some kl → f x y = g x y) : Tells P K E w B n g bd := by
  obtain ⟨D, h1, h2, h3⟩ := h
  exact ⟨D, h1, h2, fun x y kl hk => by rw [h3 x y kl hk, e x y kl hk]⟩
/-- 'm[k]'. -/
theorem Tells.look {t : TypeId} {x y : Int} {kl : Lit} (h : Tells P K E w B n f bd) (law : Keyed P K) (ht : P.underlying t = some (.map K E)) (he : P.underlying E = some (.int .i64)) (hz : (zeroValue E).run P w = .ok (.int .i64 0) w) (hkey : keyOf P K (pv x y) = some kl) :
    (Instr.lookup t (.map (some B)) (pv x y) false).run P w = .ok (.int .i64 (f x y)) w ∧ (Lit.int .i64 (f x y)).wf = true := by
  obtain ⟨D, h1, h2, h3⟩ := h
  obtain ⟨c, hrun, hat, hw⟩ := h1.lookup_int law ht he hz hkey
  have e : c = f x y := by
    have := hat.symm.trans (h3 x y kl hkey)
    simpa using this
  subst e
  exact ⟨hrun, hw⟩
theorem put_tells {D : DataW Unit} {x y c : Int} {kl : Lit} (law : Keyed P K) (hm : Maps.IsMap D) (hkey : keyOf P K (pv x y) = some kl) (hbd : bd x y)
    (h2 : ∀ key kl, keyOf P K key = some kl → Maps.has D kl = true → ∃ h a, key = pv h a ∧ bd h a) (h3 : ∀ h a kl, keyOf P K (pv h a) = some kl → D.atKey kl (.lit (.int .i64 0)) = .lit (.int .i64 (f h a))) :
    (∀ key kl', keyOf P K key = some kl' → Maps.has (D.put kl (.lit (.int .i64 c))) kl' = true → ∃ h a, key = pv h a ∧ bd h a) ∧ ∀ h a kl', keyOf P K (pv h a) = some kl' → (D.put kl (.lit (.int .i64 c))).atKey kl' (.lit (.int .i64 0)) = .lit (.int .i64 (if h = x ∧ a = y then c else f h a)) := by
  refine ⟨fun key kl' hk hh => ?_, fun h a kl' hk => ?_⟩
  · by_cases e : kl' = kl
    · subst e
      obtain rfl := law.inj hk hkey
      exact ⟨x, y, rfl, hbd⟩
    · rw [Maps.has_put_other e] at hh
      exact h2 key kl' hk hh
  · by_cases e : kl' = kl
    · subst e
      obtain ⟨rfl, rfl⟩ := pv_inj (law.inj hk hkey)
      rw [if_pos ⟨rfl, rfl⟩]
      exact Maps.atKey_put_same hm (law.key hkey) _ _
    · rw [if_neg, Maps.atKey_put_other e]
      · exact h3 h a kl' hk
      · rintro ⟨rfl, rfl⟩
        rw [hk] at hkey
        exact e (Option.some.inj hkey)
/-- 'm[k] = c', and a map's literal. -/
theorem Tells.put {t : TypeId} {x y c : Int} {kl : Lit} (h : Tells P K E w B n f bd) (law : Keyed P K) (ht : P.underlying t = some (.map K E)) (he : P.underlying E = some (.int .i64)) (hn : n < maxLen) (hkey : keyOf P K (pv x y) = some kl) (hc : (Lit.int .i64 c).wf = true) (hbd : bd x y) :
    ∃ w', (Instr.mapUpdate t (.map (some B)) (pv x y) (.int .i64 c)).run P w = .ok () w' ∧ Tells P K E w' B (n + 1) (fun h a => if h = x ∧ a = y then c else f h a) bd ∧ w.grownBy w' (some B) := by
  obtain ⟨D, h1, h2, h3⟩ := h
  obtain ⟨w1, hrun, ho, hg⟩ := h1.update law ht hn hkey (plainElem_int he hc)
  obtain ⟨q1, q2⟩ := put_tells (c := c) law h1.isMap hkey hbd h2 h3
  exact ⟨w1, hrun, ⟨_, ho, q1, q2⟩, hg⟩
/-- 'm[k] += v', its last two operations. -/
theorem Tells.entry {t : TypeId} {x y : Int} {kl : Lit} (h : Tells P K E w B n f bd) (law : Keyed P K) (ht : P.underlying t = some (.map K E)) (he : P.underlying E = some (.int .i64)) (hz : (zeroValue E).run P w = .ok (.int .i64 0) w) (hn : n < maxLen) (hkey : keyOf P K (pv x y) = some kl) (hbd : bd x y) :
    ∃ (w1 : World) (old : Value) (st : Nat), (Instr.mapEntry t (.map (some B)) (pv x y)).run P w = .ok (.tuple #[old, .int .i64 ((st : Nat) : Int)]) w1 ∧ w.grownBy w1 (some B) ∧ w1.heap.size = w.heap.size ∧ Tells P K E w1 B (n + 1) f bd ∧
      ∀ c : Int, (Lit.int .i64 c).wf = true → ∀ W : World, W.heap[B]? = w1.heap[B]? → ∃ W', (Instr.entryStore t (.map (some B)) (.int .i64 ((st : Nat) : Int)) (.int .i64 c)).run P W = .ok () W' ∧ Tells P K E W' B (n + 1) (fun h a => if h = x ∧ a = y then c else f h a) bd ∧ W.grownBy W' (some B) ∧ W'.heap.size = W.heap.size := by
  obtain ⟨lk, lw⟩ := h.look law ht he hz hkey
  obtain ⟨D, h1, h2, h3⟩ := h
  obtain ⟨w1, old, st, r1, r2, r3, r5, r6, r4⟩ := ownsMap_entry h1 law ht hn hkey hz
  have eo : old = .int .i64 (f x y) := by
    have q := r5.symm.trans lk
    injection q
  subst eo
  obtain ⟨p1, p2⟩ := put_tells (c := f x y) law h1.isMap hkey hbd h2 h3
  have hT : Tells P K E w1 B (n + 1) f bd := ⟨_, r6 _ _ (plainElem_int he lw), p1, fun h a kl' hk => by
    rw [p2 h a kl' hk]
    split
    · rename_i e; rw [e.1, e.2]
    · rfl⟩
  refine ⟨w1, _, st, r1, r2, r3, hT, fun c hc W hW => ?_⟩
  obtain ⟨W', s1, s2, s3, s4⟩ := r4 (.int .i64 c) _ _ (plainElem_int he hc) W hW
  obtain ⟨q1, q2⟩ := put_tells (c := c) law h1.isMap hkey hbd h2 h3
  exact ⟨W', s1, ⟨_, s2, q1, q2⟩, s3, s4⟩

variable {r cnt : Nat} {gone : Int → Int → Bool}
/-- A range over such a map is under way: gone says which pairs are behind it (or were never there). -/
def Under (P : Program) (K E : TypeId) (w : World) (B r n : Nat) (f : Int → Int → Int) (bd : Int → Int → Prop) (gone : Int → Int → Bool) (cnt : Nat) : Prop :=
  ∃ (D : DataW Unit) (left : Lit → Bool), w.ranges P K (plainElem P E) B r n D left cnt ∧ cnt ≤ n ∧ (∀ key kl, keyOf P K key = some kl → Maps.has D kl = true → ∃ h a, key = pv h a ∧ bd h a) ∧ (∀ h a kl, keyOf P K (pv h a) = some kl → D.atKey kl (.lit (.int .i64 0)) = .lit (.int .i64 (f h a))) ∧
    ∀ h a kl, keyOf P K (pv h a) = some kl → gone h a = !left kl
/-- 'range m'. What is not there tells 0: so at the start only zeros are gone. -/
theorem Tells.range {t : TypeId} (h : Tells P K E w B n f bd) (law : Keyed P K) (ht : P.underlying t = some (.map K E)) :
    ∃ w' gone cnt, (Instr.range t (.map (some B))).run P w = .ok (.pointer (some ⟨w.heap.size, 0, none⟩)) w' ∧ Under P K E w' B w.heap.size n f bd gone cnt ∧ (∀ x y kl, keyOf P K (pv x y) = some kl → gone x y = true → f x y = 0) ∧ w.grownBy w' none ∧ w'.heap.size = w.heap.size + 1 := by
  obtain ⟨D, h1, h2, h3⟩ := h
  have hsz := h1.size_le
  obtain ⟨w', hrun, hr, hg, hs⟩ := h1.range law ht
  refine ⟨w', fun x y => !(match keyOf P K (pv x y) with | some kl => Maps.has D kl | none => false), _, hrun, ⟨D, _, hr, hsz, h2, h3, fun x y kl hk => by simp only [hk]⟩, fun x y kl hk hgo => ?_, hg, hs⟩
  simp only [hk, Bool.not_eq_true'] at hgo
  have := h3 x y kl hk
  rw [Maps.atKey_of_not_has hgo] at this
  simpa using this.symm
/-- The step. -/
theorem Under.next (h : Under P K E w B r n f bd gone cnt) (law : Keyed P K) (he : P.underlying E = some (.int .i64)) (ty : TypeId) :
    (cnt = 0 ∧ (∀ x y kl, keyOf P K (pv x y) = some kl → gone x y = true) ∧ (Instr.next (.pointer (some ⟨r, 0, none⟩)) false ty).run P w = .ok (.tuple #[.bool false]) w) ∨
    ∃ x y kl w' cnt', keyOf P K (pv x y) = some kl ∧ gone x y = false ∧ bd x y ∧ (Lit.int .i64 (f x y)).wf = true ∧ (Instr.next (.pointer (some ⟨r, 0, none⟩)) false ty).run P w = .ok (.tuple #[.bool true, pv x y, .int .i64 (f x y)]) w' ∧
      Under P K E w' B r n f bd (fun a b => gone a b || (decide (a = x) && decide (b = y))) cnt' ∧ cnt' < cnt ∧ w.grownBy w' (some r) ∧ w'.heap.size = w.heap.size ∧ (Instr.entry (.pointer (some ⟨r, 0, none⟩))).run P w' = .ok (.tuple #[pv x y, .int .i64 (f x y)]) w' := by
  obtain ⟨D, left, h1, hcn, h2, h3, h4⟩ := h
  rcases h1.next law ty with ⟨h0, hl, hrun⟩ | ⟨key, v, kl, y0, w', cnt', hkey, hlk, hv, hat, hrun, hrg, hlt, hgr, hsz, hen⟩
  · exact .inl ⟨h0, fun x y kl hk => by rw [h4 x y kl hk, hl kl]; rfl, hrun⟩
  · obtain ⟨x, y, rfl, hbd⟩ := h2 key kl hkey (Maps.has_true_of_atKey hat)
    obtain ⟨c, rfl, hc, hwc⟩ := plainElem_int_inv he hv
    have e1 : c = f x y := by
      have e2 := (hat (.lit (.int .i64 0))).symm.trans (h3 x y kl hkey)
      rw [hc] at e2
      simpa using e2
    subst e1
    refine .inr ⟨x, y, kl, w', cnt', hkey, by rw [h4 x y kl hkey, hlk]; rfl, hbd, hwc, hrun, ⟨D, _, hrg, by omega, h2, h3, fun a b kl' hk => ?_⟩, hlt, hgr, hsz, hen⟩
    dsimp only
    rw [h4 a b kl' hk]
    by_cases e : kl' = kl
    · subst e
      obtain ⟨rfl, rfl⟩ := pv_inj (law.inj hk hkey)
      rw [WideAt.sameKey_self (law.key hkey)]
      simp
    · rw [Maps.sameKey_ne e]
      have : ¬ (a = x ∧ b = y) := by
        rintro ⟨rfl, rfl⟩
        rw [hk] at hkey
        exact e (Option.some.inj hkey)
      have e3 : (decide (a = x) && decide (b = y)) = false := by
        rw [Bool.eq_false_iff]
        intro h
        simp only [Bool.and_eq_true, decide_eq_true_eq] at h
        exact this h
      rw [e3]
      simp
theorem Under.kept {row : Option Nat} (h : Under P K E w B r n f bd gone cnt) (hg : w.grownBy w' row) (h1 : some B ≠ row) (h2 : some r ≠ row) : Under P K E w' B r n f bd gone cnt := by
  obtain ⟨D, left, q, q2⟩ := h
  exact ⟨D, left, q.kept hg h1 h2, q2⟩
theorem Under.cnt_le (h : Under P K E w B r n f bd gone cnt) : cnt ≤ n := by
  obtain ⟨D, left, q, q2, _⟩ := h
  exact q2
theorem Under.left (h : Under P K E w B r n f bd gone cnt) : w.rangeLeft B r = cnt := by
  obtain ⟨D, left, q, q2⟩ := h
  exact q.left_eq

/-- A struct of two whole numbers reads as a key. -/
theorem zKeyS {s : Nat} {f0 f1 : Field} (hk : P.underlying K = some (.struct #[f0, f1])) (he : P.underlying E = some (.int .i64)) (hkt : P.keyType K = true) (hcK : P.cellsOf K = 2) (hce : P.cellsOf E = 1) (hs : P.types.size = s + 1)
    (a0 : f0.name ≠ "_") (a1 : f1.name ≠ "_") (t0 : f0.type = E) (t1 : f1.type = E) (o0 : f0.offset = 0) (o1 : f1.offset = 1) {x y : Int} (hx : (Lit.int .i64 x).wf = true) (hy : (Lit.int .i64 y).wf = true) : ∃ kl, keyOf P K (pv x y) = some kl := by
  refine ⟨.string (keyBytes [.int .i64 x, .int .i64 y]), ?_⟩
  simp [pv, keyOf, hk, hkt, Value.formed, hcK, hs, Program.keyLits, he, hce, Value.cells, hx, hy, a0, a1, t0, t1, o0, o1]

/-- Block B is a variable's cell of type t; it holds v. -/
def Bx (W : World) (B : Nat) (t : TypeId) (v : Value) : Prop := W.heap[B]? = some (.cells #[v] t (0, 0))
theorem Bx.lt {W : World} {B : Nat} {t : TypeId} {v : Value} (h : Bx W B t v) : B < W.heap.size := (Array.getElem?_eq_some_iff.1 h).1
theorem Bx.cell {W : World} {B : Nat} {t : TypeId} {v : Value} (h : Bx W B t v) : W.cell? ⟨B, 0, none⟩ = some v := by simp [World.cell?, show W.heap[B]? = _ from h]
theorem Bx.frozen {W : World} {B : Nat} {t : TypeId} {v : Value} (h : Bx W B t v) : W.frozen? ⟨B, 0, none⟩ = false := by simp [World.frozen?, show W.heap[B]? = _ from h]
theorem Bx.new (W : World) (t : TypeId) (v : Value) : Bx (W.alloc (.cells #[v] t)) W.heap.size t v := by show (W.heap.push _)[W.heap.size]? = _; simp
theorem Bx.kept {W W' : World} {row : Option Nat} {B : Nat} {t : TypeId} {v : Value} (h : Bx W B t v) (hg : W.grownBy W' row) (hne : some B ≠ row) : Bx W' B t v := (hg.block B h.lt hne).trans h
theorem Bx.set {W : World} {B : Nat} {t : TypeId} {v : Value} (v' : Value) (h : Bx W B t v) : Bx (W.setCell ⟨B, 0, none⟩ v') B t v' := by
  obtain ⟨hlt, hk⟩ := Array.getElem?_eq_some_iff.1 h
  show (W.heap.modify B _)[B]? = _
  rw [Array.getElem?_eq_getElem (by rw [Array.size_modify]; exact hlt), Array.getElem_modify_self, hk]
  rfl
theorem kept_cell {W W' : World} {row : Option Nat} {a : Addr} {v : Value} (h : W.cell? a = some v) (hg : W.grownBy W' row) (hne : some a.block ≠ row) : W'.cell? a = some v :=
  (World.cell?_of_block (hg.block _ (World.block_lt_of_cell? W _ h) hne)).trans h

/-! ### what a round of CountByArea's range adds -/
def G (gone : Int → Int → Bool) (g : Int → Int → Int) (x y : Int) : Int := if gone x y = true then g x y else 0
def nx (gone : Int → Int → Bool) (g : Int → Int → Int) (lim h a : Int) : Int := if 0 ≤ h ∧ h ≤ lim then wrap64 (G gone g (h - 1) (a - h) + G gone g (h + 1) (a - h)) else 0
/-- One store of the round. -/
def ad (lim h0 a0 v : Int) (f : Int → Int → Int) : Int → Int → Int := if 0 ≤ h0 ∧ h0 ≤ lim then fun h a => if h = h0 ∧ a = a0 then wrap64 (f h0 a0 + v) else f h a else f
theorem wrap_wrap (x y : Int) : wrap64 (wrap64 x + y) = wrap64 (x + y) := by
  unfold wrap64; omega
theorem ad_at (lim h0 a0 v : Int) (f : Int → Int → Int) (h a : Int) : ad lim h0 a0 v f h a = if (0 ≤ h0 ∧ h0 ≤ lim) ∧ h = h0 ∧ a = a0 then wrap64 (f h0 a0 + v) else f h a := by
  by_cases r : 0 ≤ h0 ∧ h0 ≤ lim
  · have q : ad lim h0 a0 v f h a = if h = h0 ∧ a = a0 then wrap64 (f h0 a0 + v) else f h a := by unfold ad; rw [if_pos r]
    rw [q]
    by_cases e : h = h0 ∧ a = a0
    · rw [if_pos e, if_pos ⟨r, e⟩]
    · rw [if_neg e, if_neg (fun x => e x.2)]
  · have q : ad lim h0 a0 v f h a = f h a := by unfold ad; rw [if_neg r]
    rw [q, if_neg (fun x => r x.1)]
theorem nx_in (gone : Int → Int → Bool) (g : Int → Int → Int) (lim h a : Int) (r : 0 ≤ h ∧ h ≤ lim) : nx gone g lim h a = wrap64 (G gone g (h - 1) (a - h) + G gone g (h + 1) (a - h)) := if_pos r
theorem nx_out (gone : Int → Int → Bool) (g : Int → Int → Int) (lim h a : Int) (r : ¬ (0 ≤ h ∧ h ≤ lim)) : nx gone g lim h a = 0 := if_neg r
theorem nx_step (gone : Int → Int → Bool) (g : Int → Int → Int) (lim x y : Int) (hg : gone x y = false) (h a : Int) :
    nx (fun a b => gone a b || (decide (a = x) && decide (b = y))) g lim h a = ad lim (x + 1) (y + (x + 1)) (g x y) (ad lim (x - 1) (y + (x - 1)) (g x y) (nx gone g lim)) h a := by
  have hG : ∀ p q, G (fun a b => gone a b || (decide (a = x) && decide (b = y))) g p q = if p = x ∧ q = y then g x y else G gone g p q := fun p q => by
    unfold G
    by_cases e : p = x ∧ q = y
    · obtain ⟨rfl, rfl⟩ := e; simp
    · rw [if_neg e]
      have : (decide (p = x) && decide (q = y)) = false := by
        rw [Bool.eq_false_iff]; intro h; simp only [Bool.and_eq_true, decide_eq_true_eq] at h; exact e h
      simp only [this, Bool.or_false]
  have h0 : G gone g x y = 0 := by unfold G; rw [hg]; rfl
  rw [ad_at, ad_at, ad_at]
  by_cases r : 0 ≤ h ∧ h ≤ lim
  · rw [nx_in _ _ _ _ _ r, nx_in _ _ _ _ _ r, hG, hG]
    by_cases c1 : h - 1 = x ∧ a - h = y
    · rw [if_pos c1, if_neg (show ¬ (h + 1 = x ∧ a - h = y) by omega), if_pos (show (0 ≤ x + 1 ∧ x + 1 ≤ lim) ∧ h = x + 1 ∧ a = y + (x + 1) by omega), if_neg (show ¬ ((0 ≤ x - 1 ∧ x - 1 ≤ lim) ∧ x + 1 = x - 1 ∧ y + (x + 1) = y + (x - 1)) by omega), nx_in _ _ _ _ _ (show 0 ≤ x + 1 ∧ x + 1 ≤ lim by omega), wrap_wrap, show x + 1 - 1 = x by omega, show y + (x + 1) - (x + 1) = y by omega, h0, show h + 1 = x + 1 + 1 by omega, c1.2]
      congr 1; omega
    · rw [if_neg c1, if_neg (show ¬ ((0 ≤ x + 1 ∧ x + 1 ≤ lim) ∧ h = x + 1 ∧ a = y + (x + 1)) by omega)]
      by_cases c2 : h + 1 = x ∧ a - h = y
      · rw [if_pos c2, if_pos (show (0 ≤ x - 1 ∧ x - 1 ≤ lim) ∧ h = x - 1 ∧ a = y + (x - 1) by omega), nx_in _ _ _ _ _ (show 0 ≤ x - 1 ∧ x - 1 ≤ lim by omega), wrap_wrap, show x - 1 + 1 = x by omega, show y + (x - 1) - (x - 1) = y by omega, h0, show h - 1 = x - 1 - 1 by omega, c2.2]
        congr 1; omega
      · rw [if_neg c2, if_neg (show ¬ ((0 ≤ x - 1 ∧ x - 1 ≤ lim) ∧ h = x - 1 ∧ a = y + (x - 1)) by omega)]
  · rw [nx_out _ _ _ _ _ r, nx_out _ _ _ _ _ r, if_neg (by omega), if_neg (by omega)]
end Go.Proofs.YtjjkglfpcdedlabDoorZc
