-- by hand
import Derived.Test.YtdanachjdfiegaaQFnTakenx13
namespace Go.Proofs.Ytdanachjdfiegaa.QFnTaken
open Go.RowKit Go.Proofs.YtdanachjdfiegaaW.PrintWords Go.Proofs.YtdanachjdfiegaaW.PrintLast Go.Proofs.YtdanachjdfiegaaW.PrintMore
attribute [local go_sem] max2_int min2_int max_two min_two max_three min_three max_four min_four   -- for this text's walks alone
set_option linter.unusedVariables false
set_option linter.unusedSimpArgs false
/-- A box as its cells have it: what is held stands as a slice. -/
structure SB where
  f0 : ByteArray
  f1 : Int
  f2 : Int
  A : Option Addr
  n : Nat
  c : Nat
def zB : SB := ⟨⟨#[]⟩, 0, 0, none, 0, 0⟩
def kB : Kd SB := Kd.iso (Kd.pair Kd.string (Kd.pair (Kd.int .i64) (Kd.pair (Kd.int .i64) (Kd.scalar (fun t : Option Addr × Nat × Nat => Value.slice t.1 t.2.1 t.2.2) (fun _ => rfl))))) (fun x : SB => (x.f0, x.f1, x.f2, (x.A, x.n, x.c)))
theorem kB_open {w : World} {x : SB} {cs : List Value} (h : kB.K w x cs) : cs = [.string x.f0, .int .i64 x.f1, .int .i64 x.f2, .slice x.A x.n x.c] := by
  obtain ⟨_, _, rfl, rfl, ⟨_, _, rfl, rfl, ⟨_, _, rfl, rfl, rfl⟩⟩⟩ := h
  rfl
theorem kB_openM {w : World} {base : Nat} {ok : Nat → Prop} {x : SB} {cs : List Value} (h : kB.M w base ok x cs) : cs = [.string x.f0, .int .i64 x.f1, .int .i64 x.f2, .slice x.A x.n x.c] := by
  obtain ⟨_, _, rfl, rfl, ⟨_, _, rfl, rfl, ⟨_, _, rfl, rfl, rfl⟩⟩⟩ := h
  rfl
theorem kB_mkM (w : World) (base : Nat) (ok : Nat → Prop) (x : SB) : kB.M w base ok x [.string x.f0, .int .i64 x.f1, .int .i64 x.f2, .slice x.A x.n x.c] :=
  ⟨[.string x.f0], [.int .i64 x.f1, .int .i64 x.f2, .slice x.A x.n x.c], rfl, rfl, ⟨[.int .i64 x.f1], [.int .i64 x.f2, .slice x.A x.n x.c], rfl, rfl, ⟨[.int .i64 x.f2], [.slice x.A x.n x.c], rfl, rfl, rfl⟩⟩⟩
/-- A box with its raw cells: as the program's data, and its parcels as one of the pool. -/
def entS (p : SB × List S97) : S58 := ⟨p.1.f0, p.1.f1, p.1.f2, p.2⟩
def nrow (base : Nat) (p : SB × List S97) : Res := rrow k97 97 base (.slice p.1.A p.1.n p.1.c) p.2
theorem choose_l {β : Type} {p : Nat → β → Prop} : ∀ n, (∀ i, i < n → ∃ b, p i b) → ∃ l : List β, l.length = n ∧ ∀ i b, l[i]? = some b → p i b
  | 0, _ => ⟨[], rfl, fun i b h => by simp at h⟩
  | n + 1, h => by
    obtain ⟨l, hl, hp⟩ := choose_l n (fun i hi => h i (by omega))
    obtain ⟨b, hb⟩ := h n (by omega)
    refine ⟨l ++ [b], by simp [hl], fun i c hc => ?_⟩
    rcases Nat.lt_or_ge i l.length with hi | hi
    · rw [List.getElem?_append_left hi] at hc
      exact hp i c hc
    · rw [List.getElem?_append_right hi] at hc
      have h0 : i - l.length = 0 := by
        rcases Nat.eq_zero_or_pos (i - l.length) with h0 | h0
        · exact h0
        · rw [List.getElem?_eq_none (by simp; omega)] at hc
          cases hc
      rw [h0] at hc
      simp at hc
      subst hc
      have : i = n := by omega
      subst this
      exact hb
section
variable {w0 w w1 : World} {L : List Res} {A : Option Addr} {n d i : Nat} {xs : List S58} {ps : List (SB × List S97)}
/-- A row of boxes, taken apart. -/
theorem Pool.split (P : Pool w0 w (L ++ [rS w0.heap.size A n d xs])) :
    ∃ ps : List (SB × List S97), xs = ps.map entS ∧ Pool w0 w (L ++ rrow kB 58 w0.heap.size (.slice A n d) (ps.map Prod.fst) :: ps.map (nrow w0.heap.size)) := by
  obtain ⟨q0, c, hc⟩ := P
  have hS : Kd.S k58 58 w w0.heap.size (fun k => c k = L.length ∧ w0.heap.size ≤ k ∧ k < w.heap.size) (.slice A n d) xs := hc L.length (rS w0.heap.size A n d xs) (by simp)
  obtain ⟨f, h0, inner, hown, hrep⟩ := hS
  have hlen : xs.zipIdx.length = xs.length := by simp
  have key : ∀ i, i < xs.length → ∃ q : SB × List S97, xs[i]? = some (entS q) ∧ (inner.drop (i * 4)).take 4 = [.string q.1.f0, .int .i64 q.1.f1, .int .i64 q.1.f2, .slice q.1.A q.1.n q.1.c] ∧ k97.R 97 w w0.heap.size (fun k => ((c k = L.length ∧ w0.heap.size ≤ k ∧ k < w.heap.size) ∧ some k ≠ (Value.slice A n d).ownBlock) ∧ f k = i) (.slice q.1.A q.1.n q.1.c) q.2 := by
    intro i hi
    have hz : xs[i]? = some xs[i] := List.getElem?_eq_getElem hi
    have hm := hrep.2 i _ (Kd.zip_at hz)
    have hm2 : k58.M w w0.heap.size (fun k => ((c k = L.length ∧ w0.heap.size ≤ k ∧ k < w.heap.size) ∧ some k ≠ (Value.slice A n d).ownBlock) ∧ f k = i) xs[i] ((inner.drop (i * 4)).take 4) := hm
    obtain ⟨v1, e1, hr⟩ := k58_openM hm2
    obtain ⟨A', c', rfl⟩ := Kd.R_slice hr
    exact ⟨(⟨xs[i].f0, xs[i].f1, xs[i].f2, A', xs[i].f3.length, c'⟩, xs[i].f3), hz, e1, hr⟩
  obtain ⟨ps, hl, hp⟩ := choose_l xs.length key
  have hx : xs = ps.map entS := by
    refine List.ext_getElem? (fun i => ?_)
    rw [List.getElem?_map]
    rcases Nat.lt_or_ge i ps.length with hi | hi
    · rw [List.getElem?_eq_getElem hi]
      exact (hp i _ (List.getElem?_eq_getElem hi)).1
    · rw [List.getElem?_eq_none hi, List.getElem?_eq_none (by omega)]
      rfl
  refine ⟨ps, hx, q0, fun k => if c k = L.length then (if some k = (Value.slice A n d).ownBlock then L.length else L.length + 1 + f k) else c k, fun j r hj => ?_⟩
  have hR : kB.R 58 w w0.heap.size (fun k => some k = (Value.slice A n d).ownBlock) (.slice A n d) (ps.map Prod.fst) := by
    refine ⟨fun k hk => hk.symm, inner, ?_, ?_, fun j p hj => ?_⟩
    · rw [show (ps.map Prod.fst).length = xs.zipIdx.length by rw [hlen]; simp [hl]]
      exact hown
    · rw [hrep.1]
      simp [hl]
      rfl
    · rw [List.getElem?_map] at hj
      obtain ⟨q, hq, rfl⟩ := Option.map_eq_some_iff.mp hj
      have e := (hp j q hq).2.1
      show kB.M w w0.heap.size _ q.1 ((inner.drop (j * 4)).take 4)
      rw [e]
      exact kB_mkM _ _ _ _
  rcases Nat.lt_or_ge j L.length with hlt | hge
  · rw [List.getElem?_append_left hlt] at hj
    refine r.mono (hc j r (by rw [List.getElem?_append_left hlt]; exact hj)) (fun k hk => ⟨?_, hk.2⟩)
    simp only [hk.1, if_neg (Nat.ne_of_lt hlt)]
  · rw [List.getElem?_append_right hge] at hj
    match he : j - L.length, hj with
    | 0, hj =>
      obtain rfl : rrow kB 58 w0.heap.size (.slice A n d) (ps.map Prod.fst) = r := by simpa using hj
      refine Kd.R_mono hR (fun k hk => ⟨⟨?_, (h0 k hk.symm).2⟩, hk⟩)
      simp only [(h0 k hk.symm).1, if_true, if_pos hk]
      omega
    | i + 1, hj =>
      rw [List.getElem?_cons_succ, List.getElem?_map] at hj
      obtain ⟨q, hq, rfl⟩ := Option.map_eq_some_iff.mp hj
      have hr := (hp i q hq).2.2
      refine Kd.R_mono (Kd.R_tight rfl hr) (fun k hk => ⟨⟨?_, (hr.1 k hk.symm).1.1.2⟩, hk⟩)
      have h2 := hr.1 k hk.symm
      simp only [h2.1.1.1, if_true, if_neg h2.1.2, h2.2]
      omega
/-- And put together again. -/
theorem Pool.join (P : Pool w0 w (L ++ rrow kB 58 w0.heap.size (.slice A n d) (ps.map Prod.fst) :: ps.map (nrow w0.heap.size))) : Pool w0 w (L ++ [rS w0.heap.size A n d (ps.map entS)]) := by
  obtain ⟨q0, c, hc⟩ := P
  refine ⟨q0, fun k => if c k < L.length then c k else L.length, fun j r hj => ?_⟩
  rcases Nat.lt_or_ge j L.length with hlt | hge
  · rw [List.getElem?_append_left hlt] at hj
    refine r.mono (hc j r (by rw [List.getElem?_append_left hlt]; exact hj)) (fun k hk => ⟨?_, hk.2⟩)
    simp only [hk.1, if_pos hlt]
  · rw [List.getElem?_append_right hge] at hj
    match he : j - L.length, hj with
    | 0, hj =>
      obtain rfl : rS w0.heap.size A n d (ps.map entS) = r := by simpa using hj
      have hat : (L ++ rrow kB 58 w0.heap.size (.slice A n d) (ps.map Prod.fst) :: ps.map (nrow w0.heap.size))[L.length]? = some (rrow kB 58 w0.heap.size (.slice A n d) (ps.map Prod.fst)) := by simp
      obtain ⟨h0, inner, hown, hrep⟩ := hc L.length _ hat
      have hz : (ps.map entS).zipIdx.length = (ps.map Prod.fst).length := by simp
      refine ⟨fun k => c k - (L.length + 1), fun k hk => ⟨?_, (h0 k hk).1.2⟩, inner, by rw [hz]; exact hown, ?_, fun t p ht => ?_⟩
      · simp only [(h0 k hk).1.1, if_neg (Nat.lt_irrefl _)]
        omega
      · rw [hrep.1, hz]
        rfl
      · rw [List.getElem?_zipIdx, List.getElem?_map] at ht
        obtain ⟨z1, hz1, rfl⟩ := Option.map_eq_some_iff.mp ht
        obtain ⟨q, hq, rfl⟩ := Option.map_eq_some_iff.mp hz1
        have hf : (ps.map Prod.fst)[t]? = some q.1 := by rw [List.getElem?_map, hq]; rfl
        have e : (inner.drop (t * 4)).take 4 = [.string q.1.f0, .int .i64 q.1.f1, .int .i64 q.1.f2, .slice q.1.A q.1.n q.1.c] := kB_openM (hrep.2 t _ hf)
        have hn : (L ++ rrow kB 58 w0.heap.size (.slice A n d) (ps.map Prod.fst) :: ps.map (nrow w0.heap.size))[L.length + 1 + t]? = some (nrow w0.heap.size q) := by
          rw [List.getElem?_append_right (by omega), show L.length + 1 + t - L.length = t + 1 by omega, List.getElem?_cons_succ, List.getElem?_map, hq]
          rfl
        have hr := hc (L.length + 1 + t) _ hn
        show k58.M w w0.heap.size (fun k => (((if c k < L.length then c k else L.length) = j ∧ w0.heap.size ≤ k ∧ k < w.heap.size) ∧ some k ≠ (Value.slice A n d).ownBlock) ∧ c k - (L.length + 1) = 0 + t) (entS q) ((inner.drop (t * 4)).take 4)
        rw [e]
        refine k58_mkM _ _ _ (entS q) (Kd.R_mono hr (fun k hk => ⟨⟨⟨?_, hk.1.2⟩, fun e => ?_⟩, by rw [hk.1.1]; omega⟩))
        · rw [hk.1.1, if_neg (by omega)]
          omega
        · have := (h0 k e.symm).1.1
          have := hk.1.1
          omega
    | i + 1, hj => simp at hj
/-- The last one goes into the middle. -/
theorem Pool.mid {B C : List Res} {r : Res} (h : Pool w0 w (B ++ (C ++ [r]))) : Pool w0 w (B ++ r :: C) := by
  obtain ⟨h0, c, hc⟩ := h
  refine ⟨h0, fun k => if c k < B.length then c k else if c k = B.length + C.length then B.length else c k + 1, fun j q hj => ?_⟩
  rcases Nat.lt_or_ge j B.length with hlt | hge
  · rw [List.getElem?_append_left hlt] at hj
    refine q.mono (hc j q (by rw [List.getElem?_append_left hlt]; exact hj)) (fun k hk => ⟨?_, hk.2⟩)
    simp only [hk.1, if_pos hlt]
  · rw [List.getElem?_append_right hge] at hj
    match he : j - B.length, hj with
    | 0, hj =>
      obtain rfl : r = q := by simpa using hj
      refine r.mono (hc (B.length + C.length) r (by rw [List.getElem?_append_right (by omega), List.getElem?_append_right (by omega)]; simp)) (fun k hk => ⟨?_, hk.2⟩)
      simp only [hk.1]
      rw [if_neg (by omega), if_pos trivial]
      omega
    | i + 1, hj =>
      rw [List.getElem?_cons_succ] at hj
      have hi : i < C.length := (List.getElem?_eq_some_iff.1 hj).1
      refine q.mono (hc (B.length + i) q (by rw [List.getElem?_append_right (by omega), show B.length + i - B.length = i by omega, List.getElem?_append_left hi]; exact hj)) (fun k hk => ⟨?_, hk.2⟩)
      simp only [hk.1]
      rw [if_neg (by omega), if_neg (by omega)]
      omega
end
section
variable {w0 W w1 : World} {L : List Res} {α : Type} {d : Kd α} {e : Nat} {v v1 : Value} {xs ys : List α}
theorem Pool.pushed (P : Pool w0 W L) (i : Nat) (hi : L[i]? = some (rrow d e w0.heap.size v xs)) (hE : d.E = []) (hR : d.R e w1 w0.heap.size (fun k => some k = v.ownBlock ∨ W.heap.size ≤ k) v1 ys) (hb : Below w0.heap.size w0 w1) (hg : W.grownBy w1 v.ownBlock) :
    ∃ D c, v1 = .slice D ys.length c ∧ Pool w0 w1 (L.set i (rrow d e w0.heap.size (.slice D ys.length c) ys)) := by
  obtain ⟨D, c, rfl⟩ := Kd.R_slice hR
  exact ⟨D, c, rfl, P.row i hi hE hb (Kept.of_grown hg (Kept.refl W _) (fun k hk => .inl hk.symm)) hR⟩
end
section
variable {ops : Array Oper} {rest : List Oper} {o : Oper} {a : Act} {Q : Exit → Act → World → Prop} {K : Act → World → Prop} {w0 W : World} {L : List Res} {v : Value}
/-- append(row of raw boxes, a box). -/
theorem pushB {xs : List SB} (P : Pool w0 W L) (i : Nat) (hi : L[i]? = some (rrow kB 58 w0.heap.size v xs)) (x : SB) (hgd : o.guard = none) (s y : Operand) (ho : o.op = .call { callee := .builtin .append, args := #[s, y], argTypes := #[52, 52] })
    (hs : a.eval s = v) (hx : a.eval y = .slice (some ⟨W.heap.size, 0, none⟩) 1 1) (hl : xs.length ≤ 1000)
    (h : ∀ D c w1 ys, ys = xs ++ [x] → Pool w0 w1 (L.set i (rrow kB 58 w0.heap.size (.slice D ys.length c) ys)) → wpList Try.prog ops Q rest (a.put o.dst (.slice D ys.length c)) w1) :
    wpList Try.prog ops Q (o :: rest) a (W.alloc (.cells #[.string x.f0, .int .i64 x.f1, .int .i64 x.f2, .slice x.A x.n x.c] 58)) := by
  refine Kd.R_append kB (w0 := w0) w0.heap.size hgd s y 52 58 _ _ ho Try.underlying52 info58 (by rfl) (by decide) (by decide) v xs x [.string x.f0, .int .i64 x.f1, .int .i64 x.f2, .slice x.A x.n x.c] (fun k => some k = v.ownBlock ∨ W.heap.size ≤ k) (fun _ => False) hs hx (kB_mkM _ _ _ x) (fun _ hk => hk.elim) (fun k hk => .inr hk) (Kd.R_mono (P.rown i hi) (fun k hk => .inl hk)) P.1 (below_size P.1) (by omega) ?_
  intro v1 w1 hR hb hg _
  obtain ⟨D, c, rfl, P2⟩ := Pool.pushed P i hi rfl hR hb hg
  exact h D c w1 _ rfl P2
theorem pushB_step {xs : List SB} (P : Pool w0 W L) (i : Nat) (hi : L[i]? = some (rrow kB 58 w0.heap.size v xs)) (x : SB) (hw : Region.wanted o (yielded ops a.tmps) = true) (s y : Operand) (ho : o.op = .call { callee := .builtin .append, args := #[s, y], argTypes := #[52, 52] })
    (hs : a.eval s = v) (hx : a.eval y = .slice (some ⟨W.heap.size, 0, none⟩) 1 1) (hl : xs.length ≤ 1000)
    (h : ∀ D c w1 ys, ys = xs ++ [x] → Pool w0 w1 (L.set i (rrow kB 58 w0.heap.size (.slice D ys.length c) ys)) → K (a.put o.dst (.slice D ys.length c)) w1) :
    if Region.wanted o (yielded ops a.tmps) = true then Oper.wp Try.prog o a (W.alloc (.cells #[.string x.f0, .int .i64 x.f1, .int .i64 x.f2, .slice x.A x.n x.c] 58)) K Q else K (a.put o.dst undef) (W.alloc (.cells #[.string x.f0, .int .i64 x.f1, .int .i64 x.f2, .slice x.A x.n x.c] 58)) := by
  refine Kd.R_append_step kB (w0 := w0) w0.heap.size hw s y 52 58 _ _ ho Try.underlying52 info58 (by rfl) (by decide) (by decide) v xs x [.string x.f0, .int .i64 x.f1, .int .i64 x.f2, .slice x.A x.n x.c] (fun k => some k = v.ownBlock ∨ W.heap.size ≤ k) (fun _ => False) hs hx (kB_mkM _ _ _ x) (fun _ hk => hk.elim) (fun k hk => .inr hk) (Kd.R_mono (P.rown i hi) (fun k hk => .inl hk)) P.1 (below_size P.1) (by omega) ?_
  intro v1 w1 hR hb hg _
  obtain ⟨D, c, rfl, P2⟩ := Pool.pushed P i hi rfl hR hb hg
  exact h D c w1 _ rfl P2
/-- append(row of parcels, a parcel), in a region that draws. -/
theorem pushP_step {xs : List S97} (P : Pool w0 W L) (i : Nat) (hi : L[i]? = some (rrow k97 97 w0.heap.size v xs)) (x : S97) (hw : Region.wanted o (yielded ops a.tmps) = true) (s y : Operand) (ho : o.op = .call { callee := .builtin .append, args := #[s, y], argTypes := #[56, 56] })
    (hs : a.eval s = v) (hx : a.eval y = .slice (some ⟨W.heap.size, 0, none⟩) 1 1) (hl : xs.length ≤ 1000)
    (h : ∀ D c w1 ys, ys = xs ++ [x] → Pool w0 w1 (L.set i (rrow k97 97 w0.heap.size (.slice D ys.length c) ys)) → K (a.put o.dst (.slice D ys.length c)) w1) :
    if Region.wanted o (yielded ops a.tmps) = true then Oper.wp Try.prog o a (W.alloc (.cells #[.int .i64 x.f0, .int .i64 x.f1] 97)) K Q else K (a.put o.dst undef) (W.alloc (.cells #[.int .i64 x.f0, .int .i64 x.f1] 97)) := by
  refine Kd.R_append_step k97 (w0 := w0) w0.heap.size hw s y 56 97 _ _ ho Try.underlying56 info97 (by rfl) (by decide) (by decide) v xs x [.int .i64 x.f0, .int .i64 x.f1] (fun k => some k = v.ownBlock ∨ W.heap.size ≤ k) (fun _ => False) hs hx (k97_mkM _ _ _ x) (fun _ hk => hk.elim) (fun k hk => .inr hk) (Kd.R_mono (P.rown i hi) (fun k hk => .inl hk)) P.1 (below_size P.1) (by omega) ?_
  intro v1 w1 hR hb hg _
  obtain ⟨D, c, rfl, P2⟩ := Pool.pushed P i hi rfl hR hb hg
  exact h D c w1 _ rfl P2
end
section
variable {w0 w : World} {L : List Res} {n c G : Nat} {es : List SB}
/-- The cells of a raw box. -/
theorem Pool.bcell (P : Pool w0 w L) (i : Nat) (hi : L[i]? = some (rrow kB 58 w0.heap.size (.slice (some ⟨G, 0, none⟩) n c) es)) (j : Nat) (x : SB) (hj : es[j]? = some x) :
    w.cell? ⟨G, j * 4, none⟩ = some (.string x.f0) ∧ w.cell? ⟨G, j * 4 + 1, none⟩ = some (.int .i64 x.f1) ∧ w.cell? ⟨G, j * 4 + 2, none⟩ = some (.int .i64 x.f2) ∧ w.cell? ⟨G, j * 4 + 3, none⟩ = some (.slice x.A x.n x.c) ∧ w.frozen? ⟨G, j * 4 + 2, none⟩ = false ∧ w.frozen? ⟨G, j * 4 + 3, none⟩ = false := by
  have hr := P.rown i hi
  have hn := (Kd.R_reads' hr).1
  have hjl := (List.getElem?_eq_some_iff.1 hj).1
  obtain ⟨ce, hcl, hM, hcc, hfr⟩ := Kd.R_elem hr zB (j : Int) (by omega) (by omega)
  have e : es.getD (j : Int).toNat zB = x := by
    show es.getD j zB = x
    rw [List.getD_eq_getElem?_getD, hj]; rfl
  rw [e] at hM
  obtain rfl := kB_openM hM
  exact ⟨hcc 0 _ rfl, hcc 1 _ rfl, hcc 2 _ rfl, hcc 3 _ rfl, hfr 2, hfr 3⟩
/-- A raw box's slice or its Missed is written. -/
theorem Pool.bset (P : Pool w0 w L) (i : Nat) (hi : L[i]? = some (rrow kB 58 w0.heap.size (.slice (some ⟨G, 0, none⟩) n c) es)) (j : Nat) (x : SB) (hj : es[j]? = some x) (A' : Option Addr) (n' c' : Nat) :
    Pool w0 (w.setCell ⟨G, j * 4 + 3, none⟩ (.slice A' n' c')) (L.set i (rrow kB 58 w0.heap.size (.slice (some ⟨G, 0, none⟩) n c) (es.set j ⟨x.f0, x.f1, x.f2, A', n', c'⟩))) := by
  have hr := P.rown i hi
  have hn := (Kd.R_reads' hr).1
  have hjl := (List.getElem?_eq_some_iff.1 hj).1
  obtain ⟨ce, hcl, hM, hcc, hfr⟩ := Kd.R_elem hr zB (j : Int) (by omega) (by omega)
  have e : es.getD (j : Int).toNat zB = x := by
    show es.getD j zB = x
    rw [List.getD_eq_getElem?_getD, hj]; rfl
  rw [e] at hM
  obtain rfl := kB_openM hM
  have h := Kd.R_seg hr (j : Int) (by omega) (by omega) (seg := [.slice A' n' c']) (j := 3) hcl hcc (show 4 ≤ 4 by decide) (x' := ⟨x.f0, x.f1, x.f2, A', n', c'⟩) (okp := fun k => some k = (Value.slice (some ⟨G, 0, none⟩) n c).ownBlock ∧ k ≠ G) (kB_mkM _ _ _ ⟨x.f0, x.f1, x.f2, A', n', c'⟩) (fun _ hk => hk)
  have h1 : kB.R 58 (w.setCell ⟨G, j * 4 + 3, none⟩ (.slice A' n' c')) w0.heap.size (fun k => some k = (Value.slice (some ⟨G, 0, none⟩) n c).ownBlock) (.slice (some ⟨G, 0, none⟩) n c) (es.set j ⟨x.f0, x.f1, x.f2, A', n', c'⟩) := h.1
  refine P.turn i _ _ hi (fun k => k = G) (below_set P.1 (Kd.R_base hr G rfl)) ⟨by simp, fun k _ hk => Below.heap_setCell _ _ _ _ hk⟩ (fun ok hok => Kd.R_mono h1 (fun k hk => ⟨hok k (by simpa [Value.ownBlock] using hk), hk⟩)) (fun ok hF k hk => ?_)
  subst hk
  exact (hF.1 k rfl).1
theorem Pool.bset2 (P : Pool w0 w L) (i : Nat) (hi : L[i]? = some (rrow kB 58 w0.heap.size (.slice (some ⟨G, 0, none⟩) n c) es)) (j : Nat) (x : SB) (hj : es[j]? = some x) (m : Int) :
    Pool w0 (w.setCell ⟨G, j * 4 + 2, none⟩ (.int .i64 m)) (L.set i (rrow kB 58 w0.heap.size (.slice (some ⟨G, 0, none⟩) n c) (es.set j ⟨x.f0, x.f1, m, x.A, x.n, x.c⟩))) := by
  have hr := P.rown i hi
  have hn := (Kd.R_reads' hr).1
  have hjl := (List.getElem?_eq_some_iff.1 hj).1
  obtain ⟨ce, hcl, hM, hcc, hfr⟩ := Kd.R_elem hr zB (j : Int) (by omega) (by omega)
  have e : es.getD (j : Int).toNat zB = x := by
    show es.getD j zB = x
    rw [List.getD_eq_getElem?_getD, hj]; rfl
  rw [e] at hM
  obtain rfl := kB_openM hM
  have h := Kd.R_seg hr (j : Int) (by omega) (by omega) (seg := [.int .i64 m]) (j := 2) hcl hcc (show 3 ≤ 4 by decide) (x' := ⟨x.f0, x.f1, m, x.A, x.n, x.c⟩) (okp := fun k => some k = (Value.slice (some ⟨G, 0, none⟩) n c).ownBlock ∧ k ≠ G) (kB_mkM _ _ _ ⟨x.f0, x.f1, m, x.A, x.n, x.c⟩) (fun _ hk => hk)
  have h1 : kB.R 58 (w.setCell ⟨G, j * 4 + 2, none⟩ (.int .i64 m)) w0.heap.size (fun k => some k = (Value.slice (some ⟨G, 0, none⟩) n c).ownBlock) (.slice (some ⟨G, 0, none⟩) n c) (es.set j ⟨x.f0, x.f1, m, x.A, x.n, x.c⟩) := h.1
  refine P.turn i _ _ hi (fun k => k = G) (below_set P.1 (Kd.R_base hr G rfl)) ⟨by simp, fun k _ hk => Below.heap_setCell _ _ _ _ hk⟩ (fun ok hok => Kd.R_mono h1 (fun k hk => ⟨hok k (by simpa [Value.ownBlock] using hk), hk⟩)) (fun ok hF k hk => ?_)
  subst hk
  exact (hF.1 k rfl).1
end
end Go.Proofs.Ytdanachjdfiegaa.QFnTaken
