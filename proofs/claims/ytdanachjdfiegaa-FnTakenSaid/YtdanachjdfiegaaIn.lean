/- Words of this session's own: what slices.Insert does to a row of elements of several cells: 'copy' over such elements, the row behind a shift, the row behind a move into a new block. -/
import Derived.Test.YtdanachjdfiegaaWWords
import Derived.Test.YtdanachjdfiegaaWKept
import Derived.Lib.Overlaps
import Derived.Lib.AppendZerosOnto
import Derived.Laws.IdiomCopy
namespace Go.Proofs.YtdanachjdfiegaaW.PrintWords
open Go.RowKit
set_option linter.unusedVariables false
set_option linter.unusedSimpArgs false
section
variable {P : Program}
/-- 'copy' over elements of 'sz' cells: all is read before anything is written. -/
theorem run_copy_size (w : World) (dT sT ty elem : TypeId) (sz : Nat) (b o dLen dCap : Nat) (a : Addr) (sLen sCap : Nat) (cs : List Value)
    (hu : P.underlying dT = some (.slice elem)) (hs : (P.info? elem).map (·.size) = some sz) (hn : cs.length = Nat.min sLen dLen * sz)
    (hsrc : ∀ j v, cs[j]? = some v → w.cell? (a.add j) = some v) (hc : ∀ j, j < cs.length → (w.cell? ⟨b, o + j, none⟩).isSome = true) (hf : ∀ j, j < cs.length → w.frozen? ⟨b, o + j, none⟩ = false) (h1 : ∀ v ∈ cs, v.oneCell' = true) :
    (Builtin.copy_ #[dT, sT] ty #[.slice (some ⟨b, o, none⟩) dLen dCap, .slice (some a) sLen sCap]).run P w = .ok (goInt (Nat.min sLen dLen)) (w.setCells b o cs) := by
  have hl := run_loadCells_list (P := P) w a cs hsrc
  have hst := run_storeCells_cells (P := P) b o cs 0 w (by simpa using hc) (by simpa using hf) h1
  cases hq : P.info? elem with
  | none => simp [hq] at hs
  | some i =>
    have hi : i.size = sz := by simpa [hq] using hs
    simp [Builtin.copy_, run_underlying hu, Builtin.lenOf, Builtin.firstCells, sizeOf, typeInfo, hq, hi, ← hn, hl, hst]
end
section
variable {P : Program} {ops : Array Oper} {rest : List Oper} {o : Oper} {a : Act} {Q : Exit → Act → World → Prop}
theorem wpList_copy_by (w : World) (hgd : o.guard = none) (d s : Operand) (t t' : TypeId)
    (ho : o.op = .call { callee := .builtin .copy, args := #[d, s], argTypes := #[t, t'] }) (v u : Value) (hd : a.eval d = v) (hs : a.eval s = u) {v' : Value} {w' : World}
    (hr : (Builtin.copy_ #[t, t'] o.type #[v, u]).run P w = .ok v' w') (h : wpList P ops Q rest (a.put o.dst v') w') : wpList P ops Q (o :: rest) a w := by
  refine wpList_plain hgd fun K hK => ?_
  unfold Oper.wp execOp
  simp only [ho, resolve, invoke, builtin, Sem.run_bind, Sem.run_pure, Result.andThen_ok, List.map_toArray, List.map_cons, List.map_nil, hd, hs, hr]
  exact hK _ _ h
theorem step_copy_by {w : World} {K : Act → World → Prop} {E : Prop}
    (hg : o.guard = none) (d x : Operand) (dT sT : TypeId) (hop : o.op = Op.call { callee := Callee.builtin Builtin.copy, args := #[d, x], argTypes := #[dT, sT] })
    (v u : Value) (hd : a.eval d = v) (hx : a.eval x = u) {v' : Value} {w' : World} (hr : (Builtin.copy_ #[dT, sT] o.type #[v, u]).run P w = .ok v' w') (hK : K (a.put o.dst v') w') :
    if Region.wanted o (yielded ops a.tmps) = true then Oper.wp P o a w K Q else E := by
  have hw : Region.wanted o (yielded ops a.tmps) = true := by simp [Region.wanted, hg]
  rw [if_pos hw]
  unfold Oper.wp
  simp [execOp, hop, resolve, invoke, builtin, hd, hx, hr, Result.andThen]
  exact hK
end
theorem isSome_setCells (b : Nat) (vs : List Value) (o : Nat) (w : World) (h : ∀ j, j < vs.length → (w.cell? ⟨b, o + j, none⟩).isSome = true) (k : Nat) (hk : (w.cell? ⟨b, k, none⟩).isSome = true) : ((w.setCells b o vs).cell? ⟨b, k, none⟩).isSome = true := by
  by_cases hin : o ≤ k ∧ k < o + vs.length
  · have := World.cell?_setCells_in b vs o w h (k - o) (by omega)
    rw [show o + (k - o) = k by omega] at this
    rw [this]; rfl
  · rw [World.cell?_setCells_out b vs o w ⟨b, k, none⟩ (fun _ _ => by show k < o ∨ o + vs.length ≤ k; omega)]
    exact hk
theorem setCells_drew (b : Nat) : ∀ (vs : List Value) (o : Nat) (w : World), (w.setCells b o vs).drew = w.drew.setCells b o vs
  | [], _, _ => rfl
  | v :: r, o, w => by rw [World.setCells, World.setCells, setCells_drew b r]; rfl
/-- Three pieces, where the middle one is new and the last one has moved up. -/
theorem list_insert {α : Type} (L vs X Y : List α) (p q N : Nat) (hq : vs.length = q) (hp : p ≤ N) (hN : N + q ≤ L.length) (hX : X = (L.take N).drop p) :
    (((L.take (p + q) ++ X ++ Y).take p ++ vs ++ (L.take (p + q) ++ X ++ Y).drop (p + q)).take (N + q)) = (L.take N).take p ++ vs ++ X := by
  have h1 : X.length = N - p := by rw [hX, List.length_drop, List.length_take]; omega
  have h2 : (L.take (p + q)).length = p + q := by rw [List.length_take]; omega
  have e1 : (L.take (p + q) ++ X ++ Y).take p = L.take p := by rw [List.append_assoc, List.take_append_of_le_length (by omega), List.take_take, Nat.min_eq_left (by omega)]
  have e2 : (L.take (p + q) ++ X ++ Y).drop (p + q) = X ++ Y := by rw [List.append_assoc]; exact List.drop_left' h2
  have e3 : (L.take N).take p = L.take p := by rw [List.take_take, Nat.min_eq_left hp]
  rw [e1, e2, e3, ← List.append_assoc]
  exact List.take_left' (by rw [List.length_append, List.length_append, List.length_take, h1, hq]; omega)
/-- The row behind two 'copy's in place: what stood from i on has moved up by m elements, and m elements lie at i. -/
theorem shift_row {W : World} {g : Nat} {e : TypeId} {cur : Array Value} {sz n m i c : Nat} {inner vs : List Value} (hh : W.heap[g]? = some (.cells cur e (0, 0))) (hcs : cur.size = c * sz) (hi : i ≤ n) (hroom : n + m ≤ c)
    (ht : cur.toList.take (n * sz) = inner) (hv : vs.length = m * sz) :
    ∃ cur', ((W.setCells g ((i + m) * sz) (inner.drop (i * sz))).setCells g (i * sz) vs).heap[g]? = some (.cells cur' e (0, 0)) ∧ cur'.size = c * sz ∧ cur'.toList.take ((n + m) * sz) = inner.take (i * sz) ++ vs ++ inner.drop (i * sz) := by
  have hle : (n + m) * sz ≤ c * sz := Nat.mul_le_mul_right _ hroom
  rw [Nat.add_mul] at hle
  have hi2 : i * sz ≤ n * sz := Nat.mul_le_mul_right _ hi
  have hl : cur.toList.length = c * sz := by rw [Array.length_toList, hcs]
  have hil : inner.length = n * sz := by rw [← ht, List.length_take]; omega
  obtain ⟨cur1, h1, h2, h3⟩ := setCells_row (inner.drop (i * sz)) ((i + m) * sz) W cur hh (by rw [List.length_drop, hil, Nat.add_mul, hcs]; omega)
  obtain ⟨cur2, h4, h5, h6⟩ := setCells_row vs (i * sz) _ cur1 h1 (by rw [h2, hv, hcs]; omega)
  refine ⟨cur2, h4, by rw [h5, h2, hcs], ?_⟩
  rw [h6, h3, Nat.add_mul, Nat.add_mul, hv, ← ht]
  exact list_insert cur.toList vs _ _ (i * sz) (m * sz) (n * sz) hv hi2 (by omega) rfl
/-- The row behind the move into a new block: what stood ahead of i, the new ones, what stood from i on. -/
theorem list_moved {α : Type} (L vs Z : List α) (p q N G : Nat) (hL : L.length = N) (hq : vs.length = q) (hp : p ≤ N) (hZ : Z.length = G) (hG : N + q ≤ p + G) (R1 : List α) (hR1 : R1 = (L.take p ++ Z).take p ++ vs ++ (L.take p ++ Z).drop (p + q)) :
    (R1.take (p + q) ++ L.drop p ++ R1.drop (p + q + (L.drop p).length)).take (N + q) = L.take p ++ vs ++ L.drop p := by
  have h1 : (L.drop p).length = N - p := by rw [List.length_drop, hL]
  have h2 : (L.take p).length = p := by rw [List.length_take]; omega
  have h3 : (L.take p ++ Z).take p = L.take p := List.take_left' h2
  have h4 : R1.take (p + q) = L.take p ++ vs := by rw [hR1, h3]; exact List.take_left' (by rw [List.length_append]; omega)
  rw [h4, h1]
  exact List.take_left' (by rw [List.length_append, List.length_append]; omega)
theorem below_setCells {w : World} {g : Nat} (hg : w.heap.size ≤ g) : ∀ (vs : List Value) (o : Nat) (W : World), Below w.heap.size w W → Below w.heap.size w (W.setCells g o vs)
  | [], _, _, h => h
  | v :: r, o, W, h => below_setCells hg r (o + 1) _ (below_set h hg)
theorem kept_setCells {w : World} {S : Nat → Prop} {g : Nat} (hg : S g ∨ w.heap.size ≤ g) : ∀ (vs : List Value) (o : Nat) (W : World), Kept w W S → Kept w (W.setCells g o vs) S
  | [], _, _, h => h
  | v :: r, o, W, h => kept_setCells hg r (o + 1) _ (Kept.setCell (p := ⟨g, o, none⟩) h hg v)
/-- The new row's block. -/
theorem moved_row {W : World} {N : Nat} {e : TypeId} {ROW : Array Value} {sz n m i G : Nat} {inner vs Z : List Value} (hh : W.heap[N]? = some (.cells ROW e (0, 0))) (hi : i ≤ n) (hin : inner.length = n * sz) (hv : vs.length = m * sz) (hGn : n + m ≤ G)
    (hR : ROW.toList = inner.take (i * sz) ++ Z) (hs : ROW.size = G * sz) :
    ∃ cur', ((W.setCells N (i * sz) vs).setCells N ((i + m) * sz) (inner.drop (i * sz))).heap[N]? = some (.cells cur' e (0, 0)) ∧ cur'.size = G * sz ∧ cur'.toList.take ((n + m) * sz) = inner.take (i * sz) ++ vs ++ inner.drop (i * sz) := by
  have hi2 : i * sz ≤ n * sz := Nat.mul_le_mul_right _ hi
  have hle : (n + m) * sz ≤ G * sz := Nat.mul_le_mul_right _ hGn
  rw [Nat.add_mul] at hle
  have hZ : Z.length = G * sz - i * sz := by
    have h : ROW.toList.length = G * sz := by rw [Array.length_toList, hs]
    rw [hR, List.length_append, List.length_take] at h
    omega
  obtain ⟨cur1, h1, h2, h3⟩ := setCells_row vs (i * sz) W ROW hh (by rw [hs, hv]; omega)
  obtain ⟨cur2, h4, h5, h6⟩ := setCells_row (inner.drop (i * sz)) ((i + m) * sz) _ cur1 h1 (by rw [h2, hs, List.length_drop, hin, Nat.add_mul]; omega)
  refine ⟨cur2, h4, by rw [h5, h2, hs], ?_⟩
  rw [h6, Nat.add_mul, Nat.add_mul]
  exact list_moved inner vs Z (i * sz) (m * sz) (n * sz) (G * sz - i * sz) hin hv hi2 hZ (by omega) cur1.toList (by rw [h3, hR, hv])
namespace Kd
variable {α : Type} {d : Kd α} {e : Nat}
/-- A row, out of its block. -/
theorem R_of_block {W : World} {base : Nat} {ok : Nat → Prop} {g n c : Nat} {cur : Array Value} {xs : List α} {inner : List Value} (hg : ok g) (hb : base ≤ g) (hh : W.heap[g]? = some (.cells cur e (0, 0))) (hn : n = xs.length) (hnc : n ≤ c) (hcm : c ≤ maxLen) (hcs : cur.size = c * d.sz)
    (ht : cur.toList.take (n * d.sz) = inner) (hr : Reps (d.M W base (fun k => ok k ∧ some k ≠ some g)) d.sz xs inner) : d.R e W base ok (.slice (some ⟨g, 0, none⟩) n c) xs := by
  subst hn
  refine ⟨fun k hk => by have : g = k := by simpa [Value.ownBlock] using hk
                         exact this ▸ hg, inner, ⟨hr.1, .inr ⟨g, c, cur, rfl, hb, hh, hnc, hcm, hcs, ht⟩⟩, hr⟩
/-- A row's block. -/
theorem R_block {W : World} {base : Nat} {ok : Nat → Prop} {g n c : Nat} {xs : List α} (h : d.R e W base ok (.slice (some ⟨g, 0, none⟩) n c) xs) :
    ok g ∧ base ≤ g ∧ ∃ cur inner, W.heap[g]? = some (.cells cur e (0, 0)) ∧ n = xs.length ∧ n ≤ c ∧ c ≤ maxLen ∧ cur.size = c * d.sz ∧ cur.toList.take (n * d.sz) = inner ∧ Reps (d.M W base (fun k => ok k ∧ some k ≠ some g)) d.sz xs inner := by
  obtain ⟨hok, inner, ⟨hl, hn | ⟨g', cap', cur, hv, hb, hh, hnc, hcm, hcs, ht⟩⟩, hr⟩ := h
  · cases hn.1
  · injection hv with h1 h2 h3
    injection h1 with h1
    injection h1 with h1
    subst h1 h2 h3
    exact ⟨hok g rfl, hb, cur, inner, hh, rfl, hnc, hcm, hcs, ht, hr⟩
theorem reps_ones {W : World} {base : Nat} {ok : Nat → Prop} {xs : List α} {cs : List Value} (hs0 : 0 < d.sz) (h : Reps (d.M W base ok) d.sz xs cs) : ∀ u ∈ cs, u.oneCell' = true := by
  intro u hu
  obtain ⟨q, hq, rfl⟩ := List.mem_iff_getElem.1 hu
  have hql : q / d.sz < xs.length := by
    rw [Nat.div_lt_iff_lt_mul hs0, ← h.1]
    exact hq
  refine d.K_one (d.K_of_M (h.2 (q / d.sz) _ (List.getElem?_eq_getElem hql))) _ ?_
  rw [List.mem_iff_getElem?]
  refine ⟨q % d.sz, ?_⟩
  rw [List.getElem?_take, if_pos (Nat.mod_lt _ hs0), List.getElem?_drop, Nat.mul_comm, Nat.div_add_mod, List.getElem?_eq_getElem hq]
end Kd
end Go.Proofs.YtdanachjdfiegaaW.PrintWords
