/- All that a call has made and still holds, as one word: variables in memory and rows, each by blocks of its own. For every program. -/
import Derived.Test.YtdanachjdfiegaaWWords
import Derived.Test.YtdanachjdfiegaaWKept
import Derived.Test.YtdanachjdfiegaaWMore
import Derived.Test.YtdanachjdfiegaaWApart
import Derived.Laws.Rows
import Derived.Laws.Tables
set_option linter.unusedVariables false
namespace Go.Proofs.YtdanachjdfiegaaW.PrintWords
open Go.RowKit
/-- Something that holds of a world by the blocks of a set alone. -/
structure Res where
  F : World → (Nat → Prop) → Prop
  step : ∀ {w w1 : World} {ok : Nat → Prop}, F w ok → (∀ k, ok k → k < w.heap.size → w1.heap[k]? = w.heap[k]?) → F w1 ok
  mono : ∀ {w : World} {ok ok' : Nat → Prop}, F w ok → (∀ k, ok k → ok' k) → F w ok'
/-- A variable in memory. -/
def rbox (g : Nat) (cs : Array Value) (t : TypeId) : Res where
  F w ok := ok g ∧ w.heap[g]? = some (.cells cs t (0, 0))
  step h hm := ⟨h.1, (hm _ h.1 (blk_lt h.2)).trans h.2⟩
  mono h hm := ⟨hm _ h.1, h.2⟩
/-- Three rows that belong together; the first two lie apart. -/
def rtri {α β γ : Type} (d0 : Kd α) (e0 : Nat) (d1 : Kd β) (e1 : Nat) (d2 : Kd γ) (e2 : Nat) (base : Nat) (v0 v1 v2 : Value) (xs : List α) (ys : List β) (zs : List γ) : Res where
  F w ok := d0.R e0 w base (fun k => ok k ∧ some k = v0.ownBlock) v0 xs ∧ d1.R e1 w base (fun k => ok k ∧ some k = v1.ownBlock) v1 ys ∧ d2.R e2 w base (fun k => ok k ∧ some k = v2.ownBlock) v2 zs ∧ ∀ k, some k = v0.ownBlock → some k ≠ v1.ownBlock
  step h hm := ⟨Kd.R_step h.1 (fun k hk => hm k hk.1), Kd.R_step h.2.1 (fun k hk => hm k hk.1), Kd.R_step h.2.2.1 (fun k hk => hm k hk.1), h.2.2.2⟩
  mono h hm := ⟨Kd.R_mono h.1 (fun k hk => ⟨hm k hk.1, hk.2⟩), Kd.R_mono h.2.1 (fun k hk => ⟨hm k hk.1, hk.2⟩), Kd.R_mono h.2.2.1 (fun k hk => ⟨hm k hk.1, hk.2⟩), h.2.2.2⟩
/-- All of these, each by blocks of its own, all made since w0. -/
def Pool (w0 w : World) (L : List Res) : Prop := Below w0.heap.size w0 w ∧ ∃ c : Nat → Nat, ∀ (i : Nat) (r : Res), L[i]? = some r → r.F w (fun k => c k = i ∧ w0.heap.size ≤ k ∧ k < w.heap.size)
section
variable {w0 w w1 : World} {L : List Res}
theorem Pool.nil (w : World) : Pool w w [] := ⟨Below.refl _ _, fun _ => 0, fun i r h => by simp at h⟩
theorem Pool.below (h : Pool w0 w L) (hb : Below w.heap.size w w1) : Pool w0 w1 L := by
  obtain ⟨h0, c, hc⟩ := h
  refine ⟨below_step h0 hb, c, fun i r hi => r.mono (r.step (hc i r hi) (fun k hk hlt => hb.block k hlt)) (fun k hk => ⟨hk.1, hk.2.1, Nat.lt_of_lt_of_le hk.2.2 (below_size hb)⟩)⟩
theorem Pool.get (h : Pool w0 w L) (i : Nat) (r : Res) (hi : L[i]? = some r) : ∃ ok : Nat → Prop, r.F w ok := by
  obtain ⟨h0, c, hc⟩ := h
  exact ⟨_, hc i r hi⟩
theorem Pool.add (h : Pool w0 w L) (hb : Below w.heap.size w w1) (r : Res) (hr : r.F w1 (fun k => w.heap.size ≤ k ∧ k < w1.heap.size)) : Pool w0 w1 (L ++ [r]) := by
  obtain ⟨h0, c, hc⟩ := h
  refine ⟨below_step h0 hb, fun k => if k < w.heap.size then c k else L.length, fun i q hi => ?_⟩
  rcases Nat.lt_or_ge i L.length with hlt | hge
  · rw [List.getElem?_append_left hlt] at hi
    refine q.mono (q.step (hc i q hi) (fun k hk hlt => hb.block k hlt)) (fun k hk => ⟨?_, hk.2.1, Nat.lt_of_lt_of_le hk.2.2 (below_size hb)⟩)
    show (if k < w.heap.size then c k else L.length) = i
    rw [if_pos hk.2.2]
    exact hk.1
  · rw [List.getElem?_append_right hge] at hi
    have hz : i - L.length = 0 := by
      rcases Nat.eq_zero_or_pos (i - L.length) with h | h
      · exact h
      · rw [List.getElem?_eq_none (by simp; omega)] at hi
        cases hi
    rw [hz] at hi
    have e : r = q := by simpa using hi
    subst e
    refine r.mono hr (fun k hk => ⟨?_, Nat.le_trans (below_size h0) hk.1, hk.2⟩)
    show (if k < w.heap.size then c k else L.length) = i
    rw [if_neg (by omega)]
    omega
theorem Pool.box {g : Nat} {cs : Array Value} {t : TypeId} (h : Pool w0 w L) (hg : g = w.heap.size) (hbox : w1.heap[g]? = some (.cells cs t (0, 0))) (hb : Below w.heap.size w w1) : Pool w0 w1 (L ++ [rbox g cs t]) :=
  h.add hb _ ⟨⟨Nat.le_of_eq hg.symm, blk_lt hbox⟩, hbox⟩
/-- A callee has written into what is the i-th's alone. -/
theorem Pool.turn (h : Pool w0 w L) (i : Nat) (r r' : Res) (hi : L[i]? = some r) (S : Nat → Prop) (hb : Below w0.heap.size w0 w1) (hk : w.heap.size ≤ w1.heap.size ∧ ∀ k, k < w.heap.size → ¬ S k → w1.heap[k]? = w.heap[k]?)
    (hr : ∀ ok : Nat → Prop, (∀ k, S k → ok k) → r'.F w1 ok) (hS : ∀ ok : Nat → Prop, r.F w ok → ∀ k, S k → ok k) : Pool w0 w1 (L.set i r') := by
  obtain ⟨h0, c, hc⟩ := h
  have hSi := hS _ (hc i r hi)
  refine ⟨hb, c, fun j q hj => ?_⟩
  rw [List.getElem?_set] at hj
  by_cases e : i = j
  · subst e
    rw [if_pos rfl] at hj
    split at hj
    · have e2 : r' = q := by simpa using hj
      subst e2
      exact r'.mono (hr S (fun k hk => hk)) (fun k hk' => ⟨(hSi k hk').1, (hSi k hk').2.1, Nat.lt_of_lt_of_le (hSi k hk').2.2 hk.1⟩)
    · cases hj
  · rw [if_neg e] at hj
    refine q.mono (q.step (hc j q hj) (fun k hk' hlt => hk.2 k hlt (fun hs => e ((hSi k hs).1.symm.trans hk'.1)))) (fun k hk' => ⟨hk'.1, hk'.2.1, Nat.lt_of_lt_of_le hk'.2.2 hk.1⟩)
theorem Pool.cell {g : Nat} {cs : Array Value} {t : TypeId} (h : Pool w0 w L) (i : Nat) (hi : L[i]? = some (rbox g cs t)) : w.heap[g]? = some (.cells cs t (0, 0)) := by
  obtain ⟨ok, h1⟩ := h.get i _ hi
  exact h1.2
/-- A variable is written whole. -/
theorem Pool.put {g : Nat} {old cs : Array Value} {t : TypeId} (h : Pool w0 w L) (i : Nat) (hi : L[i]? = some (rbox g old t)) (hw : w1.heap[g]? = some (.cells cs t (0, 0))) (hk : w1.heap.size = w.heap.size ∧ ∀ k, k ≠ g → w1.heap[k]? = w.heap[k]?) (hb : Below w0.heap.size w0 w1) : Pool w0 w1 (L.set i (rbox g cs t)) :=
  h.turn i _ _ hi (fun k => k = g) hb ⟨Nat.le_of_eq hk.1.symm, fun k _ hne => hk.2 k hne⟩ (fun ok hok => ⟨hok g rfl, hw⟩) (fun ok h1 k hk' => by subst hk'; exact h1.1)
theorem Pool.set3 {g : Nat} {a b c x y z : Value} {t : TypeId} (h : Pool w0 w L) (i : Nat) (hi : L[i]? = some (rbox g #[a, b, c] t)) (hg : w0.heap.size ≤ g) : Pool w0 (((w.setCell ⟨g, 0, none⟩ x).setCell ⟨g, 1, none⟩ y).setCell ⟨g, 2, none⟩ z) (L.set i (rbox g #[x, y, z] t)) := by
  have hc := h.cell i hi
  refine h.put i hi (blk_put (blk_put (blk_put hc 0 x rfl) 1 y rfl) 2 z rfl) ⟨by simp, fun k hk => ?_⟩ (below_set (below_set (below_set h.1 hg) hg) hg)
  rw [Below.heap_setCell _ _ _ _ hk, Below.heap_setCell _ _ _ _ hk, Below.heap_setCell _ _ _ _ hk]
theorem Pool.base {g : Nat} {cs : Array Value} {t : TypeId} (h : Pool w0 w L) (i : Nat) (hi : L[i]? = some (rbox g cs t)) : w0.heap.size ≤ g := by
  obtain ⟨h0, c, hc⟩ := h
  exact (hc i _ hi).1.2.1
/-- Of what is held a part, in another order. -/
theorem Pool.pick (h : Pool w0 w L) (is : List Nat) (L' : List Res) (hn : is.Nodup) (he : is.map (fun i => L[i]?) = L'.map some) : Pool w0 w L' := by
  obtain ⟨h0, c, hc⟩ := h
  have inj : ∀ (j j' i : Nat), is[j]? = some i → is[j']? = some i → j = j' := by
    intro j j' i h1 h2
    obtain ⟨a1, b1⟩ := List.getElem?_eq_some_iff.mp h1
    obtain ⟨a2, b2⟩ := List.getElem?_eq_some_iff.mp h2
    rcases Nat.lt_trichotomy j j' with e | e | e
    · exact absurd (b1.trans b2.symm) (List.pairwise_iff_getElem.mp hn j j' a1 a2 e)
    · exact e
    · exact absurd (b2.trans b1.symm) (List.pairwise_iff_getElem.mp hn j' j a2 a1 e)
  refine ⟨h0, fun k => open Classical in if q : ∃ j, is[j]? = some (c k) then q.choose else is.length, fun j r hj => ?_⟩
  have e1 : (L'.map some)[j]? = some (some r) := by rw [List.getElem?_map, hj]; rfl
  rw [← he, List.getElem?_map] at e1
  obtain ⟨i, hi, hr⟩ := Option.map_eq_some_iff.mp e1
  refine r.mono (hc i r hr) (fun k hk => ⟨?_, hk.2⟩)
  have q : ∃ j, is[j]? = some (c k) := ⟨j, by rw [hk.1]; exact hi⟩
  show (open Classical in if q : ∃ j, is[j]? = some (c k) then q.choose else is.length) = j
  rw [dif_pos q]
  exact inj _ _ i (q.choose_spec.trans (by rw [hk.1])) hi
def C3 (w : World) (g : Nat) (a b c : Value) : Prop := w.cell? ⟨g, 0, none⟩ = some a ∧ w.cell? ⟨g, 1, none⟩ = some b ∧ w.cell? ⟨g, 2, none⟩ = some c
theorem Pool.held3 {g : Nat} {a b c : Value} {t : TypeId} (h : Pool w0 w L) (i : Nat) (hi : L[i]? = some (rbox g #[a, b, c] t)) : C3 w g a b c := by
  have hc := h.cell i hi
  exact ⟨(blk_cell hc 0).trans rfl, (blk_cell hc 1).trans rfl, (blk_cell hc 2).trans rfl⟩
theorem Pool.c3 {g : Nat} {a b c : Value} {t : TypeId} (h : Pool w0 w L) (i : Nat) (hi : L[i]? = some (rbox g #[a, b, c] t)) : w.cell? ⟨g, 0, none⟩ = some a ∧ w.cell? ⟨g, 1, none⟩ = some b ∧ w.cell? ⟨g, 2, none⟩ = some c ∧ w.frozen? ⟨g, 0, none⟩ = false ∧ w.frozen? ⟨g, 1, none⟩ = false ∧ w.frozen? ⟨g, 2, none⟩ = false := by
  have hc := h.cell i hi
  exact ⟨(blk_cell hc 0).trans rfl, (blk_cell hc 1).trans rfl, (blk_cell hc 2).trans rfl, blk_frozen hc 0, blk_frozen hc 1, blk_frozen hc 2⟩
theorem Pool.drew (h : Pool w0 w L) : Pool w0 w.drew L := h.below (below_drew (Below.refl _ _))
theorem st3 {Pr : Program} {ops : Array Oper} {rest : List Oper} {o : Oper} {ac : Act} {Q : Exit → Act → World → Prop} {g p : Nat} {a b c x y z : Value} {t t' : TypeId} {v : Operand} (h : Pool w0 w L) (i : Nat) (hi : L[i]? = some (rbox g #[a, b, c] t)) (hgd : o.guard = none) (ho : o.op = .store t' (.tmp p) v) (hN : o.dst = none)
    (hrun : (execOp ac.eval o).run Pr w = .ok .skip (((w.setCell ⟨g, 0, none⟩ x).setCell ⟨g, 1, none⟩ y).setCell ⟨g, 2, none⟩ z)) (hk : ∀ w', Pool w0 w' (L.set i (rbox g #[x, y, z] t)) → wpList Pr ops Q rest ac w') : wpList Pr ops Q (o :: rest) ac w :=
  store_event hgd ho hN hrun (fun w' e => e ▸ hk _ (h.set3 i hi (h.base i hi)))
/-- One row, by its own block alone. -/
def rrow {α : Type} (d : Kd α) (e : Nat) (base : Nat) (v : Value) (xs : List α) : Res where
  F w ok := d.R e w base (fun k => ok k ∧ some k = v.ownBlock) v xs
  step h hm := Kd.R_step h (fun k hk => hm k hk.1)
  mono h hm := Kd.R_mono h (fun k hk => ⟨hm k hk.1, hk.2⟩)
/-- A callee has written into what is the i-th's alone, and has made more. -/
theorem Pool.turn2 (h : Pool w0 w L) (i : Nat) (r r' : Res) (hi : L[i]? = some r) (S : Nat → Prop) (hb : Below w0.heap.size w0 w1) (hk : w.heap.size ≤ w1.heap.size ∧ ∀ k, k < w.heap.size → ¬ S k → w1.heap[k]? = w.heap[k]?)
    (hr : ∀ ok : Nat → Prop, (∀ k, w0.heap.size ≤ k → k < w1.heap.size → S k ∨ w.heap.size ≤ k → ok k) → r'.F w1 ok) (hS : ∀ ok : Nat → Prop, r.F w ok → ∀ k, S k → ok k) : Pool w0 w1 (L.set i r') := by
  obtain ⟨h0, c, hc⟩ := h
  have hSi := hS _ (hc i r hi)
  refine ⟨hb, fun k => if w.heap.size ≤ k then i else c k, fun j q hj => ?_⟩
  rw [List.getElem?_set] at hj
  by_cases e : i = j
  · subst e
    rw [if_pos rfl] at hj
    split at hj
    · have e2 : r' = q := by simpa using hj
      subst e2
      refine hr _ (fun k h1 h2 h3 => ⟨?_, h1, h2⟩)
      show (if w.heap.size ≤ k then i else c k) = i
      rcases h3 with h3 | h3
      · rw [if_neg (by have := (hSi k h3).2.2; omega)]
        exact (hSi k h3).1
      · rw [if_pos h3]
    · cases hj
  · rw [if_neg e] at hj
    refine q.mono (q.step (hc j q hj) (fun k hk' hlt => hk.2 k hlt (fun hs => e ((hSi k hs).1.symm.trans hk'.1)))) (fun k hk' => ⟨?_, hk'.2.1, Nat.lt_of_lt_of_le hk'.2.2 hk.1⟩)
    show (if w.heap.size ≤ k then i else c k) = j
    rw [if_neg (by have := hk'.2.2; omega)]
    exact hk'.1
section
variable {α β γ : Type} {d0 : Kd α} {e0 : Nat} {d1 : Kd β} {e1 : Nat} {d2 : Kd γ} {e2 : Nat} {v0 v1 v2 : Value} {xs : List α} {ys : List β} {zs : List γ}
/-- A row handed over: it comes back, perhaps elsewhere. -/
theorem Pool.row (h : Pool w0 w L) (i : Nat) {v v' : Value} {x' : List α} (hi : L[i]? = some (rrow d0 e0 w0.heap.size v xs)) (hE : d0.E = []) (hb : Below w0.heap.size w0 w1) (hk : Kept w w1 (fun k => some k = v.ownBlock)) (hr : d0.R e0 w1 w0.heap.size (fun k => some k = v.ownBlock ∨ w.heap.size ≤ k) v' x') : Pool w0 w1 (L.set i (rrow d0 e0 w0.heap.size v' x')) := by
  refine h.turn2 i _ _ hi (fun k => some k = v.ownBlock) hb hk (fun ok hok => ?_) (fun ok hF k hk => (hF.1 k hk.symm).1)
  have g := Kd.R_bound (Kd.R_tight hE hr)
  refine Kd.R_mono g (fun k hk => ⟨hok k hk.2.1 hk.2.2.1 (hr.1 k hk.1.symm), hk.1⟩)
theorem Pool.rown (h : Pool w0 w L) (i : Nat) (hi : L[i]? = some (rrow d0 e0 w0.heap.size v0 xs)) : d0.R e0 w w0.heap.size (fun k => some k = v0.ownBlock) v0 xs := by
  obtain ⟨ok, h1⟩ := h.get i _ hi
  exact Kd.R_mono h1 (fun k hk => hk.2)
theorem Pool.reads (h : Pool w0 w L) (i : Nat) {A : Option Addr} {n c : Nat} (hi : L[i]? = some (rrow d0 e0 w0.heap.size (.slice A n c) xs)) : n = xs.length ∧ n ≤ c ∧ Kd.C d0 w A xs.length xs := Kd.R_reads' (h.rown i hi)
theorem Pool.tri (h : Pool w0 w [rrow d0 e0 w0.heap.size v0 xs, rrow d1 e1 w0.heap.size v1 ys, rrow d2 e2 w0.heap.size v2 zs]) : Pool w0 w [rtri d0 e0 d1 e1 d2 e2 w0.heap.size v0 v1 v2 xs ys zs] := by
  obtain ⟨hb, c, hc⟩ := h
  have h0 := hc 0 _ rfl
  have h1 := hc 1 _ rfl
  have h2 := hc 2 _ rfl
  refine ⟨hb, fun _ => 0, fun j q hj => ?_⟩
  match j, hj with
  | 0, hj =>
    have e : rtri d0 e0 d1 e1 d2 e2 w0.heap.size v0 v1 v2 xs ys zs = q := by simpa using hj
    subst e
    refine ⟨Kd.R_mono h0 (fun k hk => ⟨⟨rfl, hk.1.2⟩, hk.2⟩), Kd.R_mono h1 (fun k hk => ⟨⟨rfl, hk.1.2⟩, hk.2⟩), Kd.R_mono h2 (fun k hk => ⟨⟨rfl, hk.1.2⟩, hk.2⟩), fun k a b => ?_⟩
    have g0 := (h0.1 k a.symm).1.1
    have g1 := (h1.1 k b.symm).1.1
    omega
  | j + 1, hj => simp at hj
theorem Pool.lift3 (P : Pool w0 w L) (Q : Pool w w1 [rtri d0 e0 d1 e1 d2 e2 w.heap.size v0 v1 v2 xs ys zs]) : Pool w0 w1 (L ++ [rtri d0 e0 d1 e1 d2 e2 w0.heap.size v0 v1 v2 xs ys zs]) := by
  obtain ⟨hb, c, hc⟩ := Q
  have h := hc 0 _ rfl
  exact P.add hb _ ⟨Kd.R_lower (Kd.R_mono h.1 (fun k hk => ⟨⟨hk.1.2.1, hk.1.2.2⟩, hk.2⟩)) (below_size P.1), Kd.R_lower (Kd.R_mono h.2.1 (fun k hk => ⟨⟨hk.1.2.1, hk.1.2.2⟩, hk.2⟩)) (below_size P.1), Kd.R_lower (Kd.R_mono h.2.2.1 (fun k hk => ⟨⟨hk.1.2.1, hk.1.2.2⟩, hk.2⟩)) (below_size P.1), h.2.2.2⟩
theorem Pool.rows3 (h : Pool w0 w L) (hb : Below w.heap.size w w1) {o0 o1 o2 : Nat → Prop} (h0 : d0.R e0 w1 w.heap.size o0 v0 xs) (h1 : d1.R e1 w1 w.heap.size o1 v1 ys) (h2 : d2.R e2 w1 w.heap.size o2 v2 zs)
    (h01 : ∀ k, o0 k → some k ≠ v1.ownBlock) (t0 : e0 ≠ e2) (t1 : e1 ≠ e2) (E0 : d0.E = []) (E1 : d1.E = []) (E2 : d2.E = []) : Pool w0 w1 (L ++ [rrow d0 e0 w0.heap.size v0 xs, rrow d1 e1 w0.heap.size v1 ys, rrow d2 e2 w0.heap.size v2 zs]) := by
  obtain ⟨q0, c, hc⟩ := h
  have b0 := Kd.R_bound (Kd.R_tight E0 h0)
  have b1 := Kd.R_bound (Kd.R_tight E1 h1)
  have b2 := Kd.R_bound (Kd.R_tight E2 h2)
  have ty : ∀ k : Nat, ∀ {e f : TypeId}, (∃ cells : Array Value, w1.heap[k]? = some (Obj.cells cells e (0, 0))) → (∃ cells : Array Value, w1.heap[k]? = some (Obj.cells cells f (0, 0))) → e = f := by
    intro k e f ⟨x, hx⟩ ⟨y, hy⟩
    rw [hx] at hy
    simp at hy
    exact hy.2
  have n2 : ∀ k, some k = v2.ownBlock → some k ≠ v0.ownBlock ∧ some k ≠ v1.ownBlock := fun k a => ⟨fun b => t0 (ty k (Kd.R_typed h0 k b.symm) (Kd.R_typed h2 k a.symm)), fun b => t1 (ty k (Kd.R_typed h1 k b.symm) (Kd.R_typed h2 k a.symm))⟩
  refine ⟨below_step q0 hb, fun k => if k < w.heap.size then c k else if some k = v0.ownBlock then L.length else if some k = v1.ownBlock then L.length + 1 else L.length + 2, fun j q hj => ?_⟩
  rcases Nat.lt_or_ge j L.length with hlt | hge
  · rw [List.getElem?_append_left hlt] at hj
    refine q.mono (q.step (hc j q hj) (fun k hk hlt => hb.block k hlt)) (fun k hk => ⟨?_, hk.2.1, Nat.lt_of_lt_of_le hk.2.2 (below_size hb)⟩)
    simp only [if_pos hk.2.2]
    exact hk.1
  · rw [List.getElem?_append_right hge] at hj
    have bs := below_size q0
    match he : j - L.length, hj with
    | 0, hj =>
      have e : rrow d0 e0 w0.heap.size v0 xs = q := by simpa using hj
      subst e
      refine Kd.R_lower (Kd.R_mono b0 (fun k hk => ⟨⟨?_, Nat.le_trans bs hk.2.1, hk.2.2.1⟩, hk.1⟩)) bs
      have := hk.2.1
      simp only [if_neg (Nat.not_lt.mpr this), if_pos hk.1]
      omega
    | 1, hj =>
      have e : rrow d1 e1 w0.heap.size v1 ys = q := by simpa using hj
      subst e
      refine Kd.R_lower (Kd.R_mono b1 (fun k hk => ⟨⟨?_, Nat.le_trans bs hk.2.1, hk.2.2.1⟩, hk.1⟩)) bs
      have := hk.2.1
      have n0 : some k ≠ v0.ownBlock := fun b => h01 k (h0.1 k b.symm) hk.1
      simp only [if_neg (Nat.not_lt.mpr this), if_neg n0, if_pos hk.1]
      omega
    | 2, hj =>
      have e : rrow d2 e2 w0.heap.size v2 zs = q := by simpa using hj
      subst e
      refine Kd.R_lower (Kd.R_mono b2 (fun k hk => ⟨⟨?_, Nat.le_trans bs hk.2.1, hk.2.2.1⟩, hk.1⟩)) bs
      have := hk.2.1
      simp only [if_neg (Nat.not_lt.mpr this), if_neg (n2 k hk.1).1, if_neg (n2 k hk.1).2]
      omega
    | n + 3, hj => simp at hj
theorem Pool.nil3 (h : Pool w0 w L) (v0 v1 v2 : Value) (a0 : v0 = .slice none 0 0) (a1 : v1 = .slice none 0 0) (a2 : v2 = .slice none 0 0) : Pool w0 w [rtri d0 e0 d1 e1 d2 e2 w0.heap.size v0 v1 v2 [] [] []] := by
  subst a0 a1 a2
  refine ⟨h.1, fun _ => 0, fun j q hj => ?_⟩
  match j, hj with
  | 0, hj =>
    have e : rtri d0 e0 d1 e1 d2 e2 w0.heap.size (.slice none 0 0) (.slice none 0 0) (.slice none 0 0) [] [] [] = q := by simpa using hj
    subst e
    exact ⟨Kd.R_nil _ _ _ _ _, Kd.R_nil _ _ _ _ _, Kd.R_nil _ _ _ _ _, fun k a => by simp [Value.ownBlock] at a⟩
  | j + 1, hj => simp at hj
end
def C2 (w : World) (g : Nat) (a b : Value) : Prop := w.cell? ⟨g, 0, none⟩ = some a ∧ w.cell? ⟨g, 1, none⟩ = some b
theorem Pool.held2 {g : Nat} {a b : Value} {t : TypeId} (h : Pool w0 w L) (i : Nat) (hi : L[i]? = some (rbox g #[a, b] t)) : C2 w g a b := by
  have hc := h.cell i hi
  exact ⟨(blk_cell hc 0).trans rfl, (blk_cell hc 1).trans rfl⟩
theorem Pool.c2 {g : Nat} {a b : Value} {t : TypeId} (h : Pool w0 w L) (i : Nat) (hi : L[i]? = some (rbox g #[a, b] t)) : w.cell? ⟨g, 0, none⟩ = some a ∧ w.cell? ⟨g, 1, none⟩ = some b ∧ w.frozen? ⟨g, 0, none⟩ = false ∧ w.frozen? ⟨g, 1, none⟩ = false := by
  have hc := h.cell i hi
  exact ⟨(blk_cell hc 0).trans rfl, (blk_cell hc 1).trans rfl, blk_frozen hc 0, blk_frozen hc 1⟩
theorem Pool.set2 {g : Nat} {a b x y : Value} {t : TypeId} (h : Pool w0 w L) (i : Nat) (hi : L[i]? = some (rbox g #[a, b] t)) (hg : w0.heap.size ≤ g) : Pool w0 ((w.setCell ⟨g, 0, none⟩ x).setCell ⟨g, 1, none⟩ y) (L.set i (rbox g #[x, y] t)) := by
  have hc := h.cell i hi
  refine h.put i hi (blk_put (blk_put hc 0 x rfl) 1 y rfl) ⟨by simp, fun k hk => ?_⟩ (below_set (below_set h.1 hg) hg)
  rw [Below.heap_setCell _ _ _ _ hk, Below.heap_setCell _ _ _ _ hk]
theorem Pool.set1 {g : Nat} {cs cs' : Array Value} {x : Value} {t : TypeId} (h : Pool w0 w L) (i j : Nat) (hi : L[i]? = some (rbox g cs t)) (he : cs.setIfInBounds j x = cs') : Pool w0 (w.setCell ⟨g, j, none⟩ x) (L.set i (rbox g cs' t)) := by
  have hc := h.cell i hi
  have hg := h.base i hi
  refine h.put i hi (blk_put hc j x he) ⟨by simp, fun k hk => ?_⟩ (below_set h.1 hg)
  rw [Below.heap_setCell _ _ _ _ hk]
theorem st2 {Pr : Program} {ops : Array Oper} {rest : List Oper} {o : Oper} {ac : Act} {Q : Exit → Act → World → Prop} {g p : Nat} {a b x y : Value} {t t' : TypeId} {v : Operand} (h : Pool w0 w L) (i : Nat) (hi : L[i]? = some (rbox g #[a, b] t)) (hgd : o.guard = none) (ho : o.op = .store t' (.tmp p) v) (hN : o.dst = none)
    (hrun : (execOp ac.eval o).run Pr w = .ok .skip ((w.setCell ⟨g, 0, none⟩ x).setCell ⟨g, 1, none⟩ y)) (hk : ∀ w', Pool w0 w' (L.set i (rbox g #[x, y] t)) → wpList Pr ops Q rest ac w') : wpList Pr ops Q (o :: rest) ac w :=
  store_event hgd ho hN hrun (fun w' e => e ▸ hk _ (h.set2 i hi (h.base i hi)))
/-- One of them is let go. -/
theorem Pool.drop1 {A B : List Res} {r : Res} (h : Pool w0 w (A ++ r :: B)) : Pool w0 w (A ++ B) := by
  obtain ⟨h0, c, hc⟩ := h
  refine ⟨h0, fun k => if c k < A.length then c k else if c k = A.length then A.length + B.length else c k - 1, fun j q hj => ?_⟩
  rcases Nat.lt_or_ge j A.length with hlt | hge
  · rw [List.getElem?_append_left hlt] at hj
    refine q.mono (hc j q (by rw [List.getElem?_append_left hlt]; exact hj)) (fun k hk => ⟨?_, hk.2⟩)
    simp only [hk.1, if_pos hlt]
  · have hj2 : (A ++ r :: B)[j + 1]? = some q := by
      rw [List.getElem?_append_right hge] at hj
      rw [List.getElem?_append_right (by omega), show j + 1 - A.length = (j - A.length) + 1 by omega, List.getElem?_cons_succ]
      exact hj
    refine q.mono (hc (j + 1) q hj2) (fun k hk => ⟨?_, hk.2⟩)
    simp only [hk.1]
    rw [if_neg (by omega), if_neg (by omega)]
    omega
theorem Pool.sub {B C : List Res} (hs : C.Sublist B) : ∀ {A : List Res}, Pool w0 w (A ++ B) → Pool w0 w (A ++ C) := by
  induction hs with
  | slnil => exact fun h => h
  | cons a _ ih => exact fun h => ih h.drop1
  | @cons_cons l1 l2 a _ ih =>
    intro A h
    have h2 : Pool w0 w ((A ++ [a]) ++ l2) := by rw [List.append_assoc]; exact h
    have h3 := ih h2
    rw [List.append_assoc] at h3
    exact h3
theorem Pool.sublist {B C : List Res} (h : Pool w0 w B) (hs : C.Sublist B) : Pool w0 w C := Pool.sub (A := []) hs h
theorem Pool.apart {α : Type} {d : Kd α} {e g : Nat} {v : Value} {xs : List α} {cs : Array Value} {t : TypeId} (h : Pool w0 w L) (i j : Nat) (hi : L[i]? = some (rrow d e w0.heap.size v xs)) (hj : L[j]? = some (rbox g cs t)) (hij : i ≠ j) : some g ≠ v.ownBlock := by
  obtain ⟨_, c, hc⟩ := h
  intro e
  exact hij (((hc i _ hi).1 g e.symm).1.1.symm.trans (hc j _ hj).1.1)
theorem Pool.c1 {g : Nat} {a : Value} {t : TypeId} (h : Pool w0 w L) (i : Nat) (hi : L[i]? = some (rbox g #[a] t)) : w.cell? ⟨g, 0, none⟩ = some a ∧ w.frozen? ⟨g, 0, none⟩ = false := by
  have hc := h.cell i hi
  exact ⟨(blk_cell hc 0).trans rfl, blk_frozen hc 0⟩
theorem st1 {Pr : Program} {ops : Array Oper} {rest : List Oper} {o : Oper} {ac : Act} {Q : Exit → Act → World → Prop} {g p : Nat} {a x : Value} {t t' : TypeId} {v : Operand} (h : Pool w0 w L) (i : Nat) (hi : L[i]? = some (rbox g #[a] t)) (hgd : o.guard = none) (ho : o.op = .store t' (.tmp p) v) (hN : o.dst = none)
    (hrun : (execOp ac.eval o).run Pr w = .ok .skip (w.setCell ⟨g, 0, none⟩ x)) (hk : ∀ w', Pool w0 w' (L.set i (rbox g #[x] t)) → wpList Pr ops Q rest ac w') : wpList Pr ops Q (o :: rest) ac w :=
  store_event hgd ho hN hrun (fun w' e => e ▸ hk _ (h.set1 i 0 hi rfl))
/-- The last one ahead of all others. -/
theorem Pool.rot {A : List Res} {r : Res} (h : Pool w0 w (A ++ [r])) : Pool w0 w (r :: A) := by
  obtain ⟨h0, c, hc⟩ := h
  refine ⟨h0, fun k => if c k = A.length then 0 else c k + 1, fun j q hj => ?_⟩
  match j, hj with
  | 0, hj =>
    have e : r = q := by simpa using hj
    subst e
    exact r.mono (hc A.length r (by simp)) (fun k hk => ⟨by simp only [if_pos hk.1], hk.2⟩)
  | j + 1, hj =>
    rw [List.getElem?_cons_succ] at hj
    have hl := (List.getElem?_eq_some_iff.mp hj).1
    refine q.mono (hc j q (by rw [List.getElem?_append_left hl]; exact hj)) (fun k hk => ⟨?_, hk.2⟩)
    simp only [hk.1]
    rw [if_neg (by omega)]
end
end Go.Proofs.YtdanachjdfiegaaW.PrintWords
