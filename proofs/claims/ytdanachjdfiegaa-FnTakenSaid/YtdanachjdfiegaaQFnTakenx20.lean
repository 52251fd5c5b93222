-- by hand
import Derived.Test.YtdanachjdfiegaaQFnTakenx8
import Derived.Test.YtdanachjdfiegaaQFnTakenx14
import Derived.Test.YtdanachjdfiegaaQFnTakenx19
namespace Go.Proofs.Ytdanachjdfiegaa.QFnTaken
open Go.RowKit Go.Proofs.YtdanachjdfiegaaW.PrintWords Go.Proofs.YtdanachjdfiegaaW.PrintLast Go.Proofs.YtdanachjdfiegaaW.PrintMore
attribute [local go_sem] max2_int min2_int max_two min_two max_three min_three max_four min_four   -- for this text's walks alone
set_option linter.unusedVariables false
set_option linter.unusedSimpArgs false
/-- A post of the pool's, with where the parcels of one box stand. -/
def rP (base g n d : Nat) (xs : List S58) (i : Nat) (A : Option Addr) (m c3 : Nat) : Res where
  F w ok := Kd.S k58 58 w base ok (.slice (some ⟨g, 0, none⟩) n d) xs ∧ ∃ cells, w.heap[g]? = some (.cells cells 58 (0, 0)) ∧ cells[i * 4 + 3]? = some (.slice A m c3)
  step h hm := by
    obtain ⟨h1, cells, h2, h3⟩ := h
    exact ⟨Kd.S_step h1 hm, cells, (hm g ((Kd.S_R h1).1 g rfl) (blk_lt h2)).trans h2, h3⟩
  mono h hm := ⟨Kd.S_mono h.1 hm, h.2⟩
section
variable {w0 w w1 : World} {L M : List Res} {A B : Option Addr} {n m c d g i : Nat} {xs ys : List S58} {x : S58}
theorem Pool.imp (P : Pool w0 w L) (i : Nat) (r r' : Res) (hi : L[i]? = some r) (h : ∀ ok : Nat → Prop, r.F w ok → r'.F w ok) : Pool w0 w (L.set i r') := by
  obtain ⟨h0, c, hc⟩ := P
  refine ⟨h0, c, fun j q hj => ?_⟩
  rw [List.getElem?_set] at hj
  by_cases e : i = j
  · subst e
    rw [if_pos rfl] at hj
    split at hj
    · obtain rfl := Option.some.inj hj
      exact h _ (hc i r hi)
    · cases hj
  · rw [if_neg e] at hj
    exact hc j q hj
theorem Pool.lift {M' : List Res} (P : Pool w0 w L) (Q : Pool w w1 M) (hl : M'.length = M.length) (hM : ∀ (i : Nat) (q r : Res), M[i]? = some q → M'[i]? = some r → ∀ ok : Nat → Prop, q.F w1 ok → r.F w1 ok) : Pool w0 w1 (L ++ M') := by
  obtain ⟨h0, c, hc⟩ := P
  obtain ⟨hb, cq, hq⟩ := Q
  have bs := below_size h0
  have bw := below_size hb
  refine ⟨below_step h0 hb, fun k => if k < w.heap.size then c k else L.length + cq k, fun j r hj => ?_⟩
  rcases Nat.lt_or_ge j L.length with hlt | hge
  · rw [List.getElem?_append_left hlt] at hj
    refine r.mono (r.step (hc j r hj) (fun k hk hlt => hb.block k hlt)) (fun k hk => ⟨?_, hk.2.1, Nat.lt_of_lt_of_le hk.2.2 bw⟩)
    simp only [if_pos hk.2.2]
    exact hk.1
  · rw [List.getElem?_append_right hge] at hj
    have hj2 : j - L.length < M.length := by rw [← hl]; exact (List.getElem?_eq_some_iff.1 hj).1
    have h1 := hq (j - L.length) _ (List.getElem?_eq_getElem hj2)
    refine r.mono (hM _ _ _ (List.getElem?_eq_getElem hj2) hj _ h1) (fun k hk => ⟨?_, Nat.le_trans bs hk.2.1, hk.2.2⟩)
    simp only [if_neg (Nat.not_lt.mpr hk.2.1), hk.1]
    omega
theorem rS_low {b b' : Nat} (hb : b' ≤ b) (ok : Nat → Prop) (h : (rS b A n d xs).F w ok) : (rS b' A n d xs).F w ok := Kd.S_lower h hb
theorem rrow_low {α : Type} {k : Kd α} {e b b' : Nat} {v : Value} {zs : List α} (hb : b' ≤ b) (ok : Nat → Prop) (h : (rrow k e b v zs).F w ok) : (rrow k e b' v zs).F w ok := Kd.R_lower h hb
theorem lift1 (P : Pool w0 w L) (Q : Pool w w1 [rS w.heap.size A n d xs]) : Pool w0 w1 (L ++ [rS w0.heap.size A n d xs]) := by
  refine Pool.lift P Q rfl (fun i q r h1 h2 ok h => ?_)
  match i, h1, h2 with
  | 0, h1, h2 =>
    obtain rfl := Option.some.inj h1
    obtain rfl := Option.some.inj h2
    exact rS_low (below_size P.1) ok h
  | i + 1, h1, h2 => simp at h1
theorem lift2 {v : Value} {zs : List S97} (P : Pool w0 w L) (Q : Pool w w1 [rS w.heap.size A n d xs, rrow k97 97 w.heap.size v zs]) : Pool w0 w1 (L ++ [rS w0.heap.size A n d xs, rrow k97 97 w0.heap.size v zs]) := by
  refine Pool.lift P Q rfl (fun i q r h1 h2 ok h => ?_)
  match i, h1, h2 with
  | 0, h1, h2 =>
    obtain rfl := Option.some.inj h1
    obtain rfl := Option.some.inj h2
    exact rS_low (below_size P.1) ok h
  | 1, h1, h2 =>
    obtain rfl := Option.some.inj h1
    obtain rfl := Option.some.inj h2
    exact rrow_low (below_size P.1) ok h
  | i + 2, h1, h2 => simp at h1
theorem seeHeld (P : Pool w0 w L) (j : Nat) (hj : L[j]? = some (rS w0.heap.size (some ⟨g, 0, none⟩) n d xs)) (hx : xs[i]? = some x) : ∃ A c3, Pool w0 w (L.set j (rP w0.heap.size g n d xs i A x.f3.length c3)) := by
  obtain ⟨A, c3, -, h3, -⟩ := boxCells P j hj hx
  obtain ⟨ok, hS⟩ := P.get j _ hj
  obtain ⟨g', cap, e, -, -, cells, hc⟩ := Kd.S_form hS (by have := (List.getElem?_eq_some_iff.1 hx).1; omega)
  injection e with e1 _ _
  injection e1 with e1
  injection e1 with e1
  subst e1
  exact ⟨A, c3, Pool.imp P j _ _ hj (fun ok h => ⟨h, cells, hc, (blk_cell hc _).symm.trans h3⟩)⟩
theorem rP_reads {m c3 : Nat} (P : Pool w0 w L) (j : Nat) (hj : L[j]? = some (rP w0.heap.size g n d xs i A m c3)) : n = xs.length ∧ n ≤ d ∧ Kd.C k58 w (some ⟨g, 0, none⟩) xs.length xs := by
  obtain ⟨ok, h, -⟩ := P.get j _ hj
  exact Kd.S_reads' h
theorem rP_cells {m c3 : Nat} (P : Pool w0 w L) (j : Nat) (hj : L[j]? = some (rP w0.heap.size g n d xs i A m c3)) (hx : xs[i]? = some x) :
    w.cell? ⟨g, i * 4, none⟩ = some (.string x.f0) ∧ w.cell? ⟨g, i * 4 + 1, none⟩ = some (.int .i64 x.f1) ∧ w.cell? ⟨g, i * 4 + 2, none⟩ = some (.int .i64 x.f2) ∧ w.cell? ⟨g, i * 4 + 3, none⟩ = some (.slice A x.f3.length c3) := by
  obtain ⟨ok, hS, cells, hc, h3⟩ := P.get j _ hj
  have hi := (List.getElem?_eq_some_iff.1 hx).1
  obtain ⟨hN, _, _⟩ := Kd.S_reads' hS
  have hxe : xs.getD (i : Int).toNat z58 = x := by
    show xs.getD i z58 = x
    rw [List.getD_eq_getElem?_getD, hx]; rfl
  obtain ⟨oki, cs, hcl, hM, hcells, hfr, hoki, hH⟩ := Kd.S_elem hS z58 (i : Int) (by omega) (by omega)
  rw [hxe] at hM
  obtain ⟨v3, rfl, hR⟩ := k58_openM hM
  obtain ⟨A', c', rfl⟩ := Kd.R_slice hR
  have e3 := hcells 3 _ rfl
  have d3 := (blk_cell hc (i * 4 + 3)).trans h3
  have e := Option.some.inj (e3.symm.trans d3)
  injection e with e1 e2 e4
  subst e1 e4
  exact ⟨hcells 0 _ rfl, hcells 1 _ rfl, hcells 2 _ rfl, e3⟩
theorem rP_held {m c3 : Nat} (P : Pool w0 w L) (j : Nat) (hj : L[j]? = some (rP w0.heap.size g n d xs i A m c3)) (hx : xs[i]? = some x) : x.f3.length ≤ c3 ∧ Kd.C k97 w A x.f3.length x.f3 := by
  obtain ⟨-, -, -, d3⟩ := rP_cells P j hj hx
  obtain ⟨ok, hS, -⟩ := P.get j _ hj
  have hi := (List.getElem?_eq_some_iff.1 hx).1
  obtain ⟨hN, _, _⟩ := Kd.S_reads' hS
  have hxe : xs.getD (i : Int).toNat z58 = x := by
    show xs.getD i z58 = x
    rw [List.getD_eq_getElem?_getD, hx]; rfl
  obtain ⟨oki, cs, hcl, hM, hcells, hfr, hoki, hH⟩ := Kd.S_elem hS z58 (i : Int) (by omega) (by omega)
  rw [hxe] at hM
  obtain ⟨v3, rfl, hR⟩ := k58_openM hM
  obtain ⟨A', c', rfl⟩ := Kd.R_slice hR
  obtain ⟨-, h3, hC⟩ := Kd.R_reads' hR
  have e3 := hcells 3 _ rfl
  have e := Option.some.inj (e3.symm.trans d3)
  injection e with e1 e2 e4
  subst e1 e4
  exact ⟨h3, hC⟩
theorem Pool.set4 {t : TypeId} {a b c e x y z u : Value} (h : Pool w0 w L) (i : Nat) (hi : L[i]? = some (rbox g #[a, b, c, e] t)) (hg : w0.heap.size ≤ g) : Pool w0 ((((w.setCell ⟨g, 0, none⟩ x).setCell ⟨g, 1, none⟩ y).setCell ⟨g, 2, none⟩ z).setCell ⟨g, 3, none⟩ u) (L.set i (rbox g #[x, y, z, u] t)) := by
  have hc := h.cell i hi
  refine h.put i hi (blk_put (blk_put (blk_put (blk_put hc 0 x rfl) 1 y rfl) 2 z rfl) 3 u rfl) ⟨by simp, fun k hk => ?_⟩ (below_set (below_set (below_set (below_set h.1 hg) hg) hg) hg)
  rw [Below.heap_setCell _ _ _ _ hk, Below.heap_setCell _ _ _ _ hk, Below.heap_setCell _ _ _ _ hk, Below.heap_setCell _ _ _ _ hk]
theorem st4 {Pr : Program} {ops : Array Oper} {rest : List Oper} {o : Oper} {ac : Act} {Q : Exit → Act → World → Prop} {p : Nat} {a b c e x y z u : Value} {t t' : TypeId} {v : Operand} (h : Pool w0 w L) (i : Nat) (hi : L[i]? = some (rbox g #[a, b, c, e] t)) (hgd : o.guard = none) (ho : o.op = .store t' (.tmp p) v) (hN : o.dst = none)
    (hrun : (execOp ac.eval o).run Pr w = .ok .skip ((((w.setCell ⟨g, 0, none⟩ x).setCell ⟨g, 1, none⟩ y).setCell ⟨g, 2, none⟩ z).setCell ⟨g, 3, none⟩ u)) (hk : ∀ w', Pool w0 w' (L.set i (rbox g #[x, y, z, u] t)) → wpList Pr ops Q rest ac w') : wpList Pr ops Q (o :: rest) ac w :=
  store_event hgd ho hN hrun (fun w' e => e ▸ hk _ (Pool.set4 h i hi (h.base i hi)))
theorem Pool.c4 {t : TypeId} {a b c e : Value} (h : Pool w0 w L) (i : Nat) (hi : L[i]? = some (rbox g #[a, b, c, e] t)) : (w.cell? ⟨g, 0, none⟩ = some a ∧ w.cell? ⟨g, 1, none⟩ = some b ∧ w.cell? ⟨g, 2, none⟩ = some c ∧ w.cell? ⟨g, 3, none⟩ = some e) ∧ w.frozen? ⟨g, 0, none⟩ = false ∧ w.frozen? ⟨g, 1, none⟩ = false ∧ w.frozen? ⟨g, 2, none⟩ = false ∧ w.frozen? ⟨g, 3, none⟩ = false := by
  have hc := h.cell i hi
  exact ⟨⟨(blk_cell hc 0).trans rfl, (blk_cell hc 1).trans rfl, (blk_cell hc 2).trans rfl, (blk_cell hc 3).trans rfl⟩, blk_frozen hc 0, blk_frozen hc 1, blk_frozen hc 2, blk_frozen hc 3⟩
def C4 (w : World) (g : Nat) (a b c e : Value) : Prop := w.cell? ⟨g, 0, none⟩ = some a ∧ w.cell? ⟨g, 1, none⟩ = some b ∧ w.cell? ⟨g, 2, none⟩ = some c ∧ w.cell? ⟨g, 3, none⟩ = some e
/-- What a taking of parcels comes to. -/
def TakeOk (k : Nat) (lim : Int) (xs : List S58) (tok : ByteArray) (cnt : Int) (ys : List S58) (tk : List S97) (miss : Int) : Prop :=
  ∃ (i m : Nat) (x : S58), tk = x.f3.take m ∧ ys = xs.set i ⟨x.f0, x.f1, 0, x.f3.drop m⟩ ∧ miss = x.f2 ∧ impl_ValidPost.f k lim xs = some true ∧ impl_clonePost.f k lim xs = some (lim, xs) ∧ impl_Post_at_n64.f k lim xs tok = some ((i : Int), true) ∧ impl_in.f cnt 0 64 = some true ∧ 0 ≤ cnt ∧ xs[i]? = some x ∧ mn cnt (x.f3.length : Int) = (m : Int) ∧ x.f3.length ≤ 1000 ∧ impl_ValidPost.f k lim ys = some true
/-- What a giving back of parcels comes to. -/
def RetOk (k : Nat) (lim : Int) (xs : List S58) (tok : ByteArray) (tk : List S97) (ys : List S58) : Prop :=
  ∃ (i : Nat) (x : S58), ys = xs.set i ⟨x.f0, x.f1, x.f2, tk ++ x.f3⟩ ∧ impl_ValidPost.f k lim xs = some true ∧ impl_clonePost.f k lim xs = some (lim, xs) ∧ impl_Post_at_n64.f k lim xs tok = some ((i : Int), true) ∧ impl_parcelsOk.f k tk = some true ∧ xs[i]? = some x ∧ tk.length ≤ 100 ∧ x.f3.length ≤ 100 ∧ ((tk ++ x.f3).length : Int) ≤ lim ∧ lim ≤ 1000 ∧ impl_ValidPost.f k lim ys = some true
theorem takeR (k : Nat) (lim : Int) (tok : ByteArray) (cnt miss : Int) (tk : List S97) (P : Pool w0 w L) (hC : n = xs.length ∧ n ≤ c ∧ Kd.C k58 w A xs.length xs) (H : TakeOk k lim xs tok cnt ys tk miss) :
    Calls Try.prog 25 #[.agg #[.int .i64 lim, .slice A n c], .string tok, .int .i64 cnt] w fun e w' => ∃ D d E f, e = .returned (.tuple #[.agg #[.int .i64 lim, .slice D ys.length d], .slice E tk.length f, .int .i64 miss, .bool true]) ∧ Pool w0 w' (L ++ [rS w0.heap.size D ys.length d ys, rrow k97 97 w0.heap.size (.slice E tk.length f) tk]) := by
  obtain ⟨rfl, h1, h2⟩ := hC
  obtain ⟨i, m, x, htk, rfl, rfl, hv, hcl, hat, hin, hcnt, hx, hmn, hl, hg⟩ := H
  refine (impl_TakeFrom.calls k lim A c xs tok cnt i m x tk htk w h2 h1 hv hcl hat hin hcnt hx hmn hl hg).mono ?_
  rintro e w' ⟨D, d, E, f, rfl, Q⟩
  exact ⟨D, d, E, f, rfl, lift2 P Q⟩
theorem retR (k : Nat) (lim : Int) (tok : ByteArray) (tk : List S97) (P : Pool w0 w L) (hC : n = xs.length ∧ n ≤ c ∧ Kd.C k58 w A xs.length xs) (q : Nat) (hq : L[q]? = some (rrow k97 97 w0.heap.size (.slice B m d) tk)) (H : RetOk k lim xs tok tk ys) :
    Calls Try.prog 26 #[.agg #[.int .i64 lim, .slice A n c], .string tok, .slice B m d] w fun e w' => ∃ D d, e = .returned (.tuple #[.agg #[.int .i64 lim, .slice D ys.length d], .bool true]) ∧ Pool w0 w' (L ++ [rS w0.heap.size D ys.length d ys]) := by
  obtain ⟨rfl, h1, h2⟩ := hC
  obtain ⟨rfl, g1, g2⟩ := P.reads q hq
  obtain ⟨i, x, hys, hv, hcl, hat, hpk, hx, la, lb, hl, hl2, hg⟩ := H
  refine (impl_ReturnTo.calls k lim A c xs tok B d tk i x _ rfl w h2 h1 g2 g1 hv hcl hat hpk hx la lb hl hl2 ys hys hg).mono ?_
  rintro e w' ⟨D, d, rfl, Q⟩
  exact ⟨D, d, rfl, lift1 P Q⟩
theorem r8R (k : Nat) (l : List Int) (lim : Int) (P : Pool w0 w L) (hr : Kd.C (Kd.int .u8) w0 A l.length l) (hc : l.length ≤ c) (H : R8Is k l lim xs) :
    Calls Try.prog 24 #[.slice A l.length c] w fun e w' => ∃ D d, e = .returned (.agg #[.int .i64 lim, .slice D xs.length d]) ∧ Pool w0 w' (L ++ [rS w0.heap.size D xs.length d xs]) := by
  refine (spec_R8Post.calls k A c l lim xs w (Kd.C_below hr P.1) hc H).mono ?_
  rintro e w' ⟨D, d, rfl, Q⟩
  exact ⟨D, d, rfl, lift1 P Q⟩
theorem longW (l l2 : List Int) (r : Bool) (P : Pool w0 w L) (hr : Kd.C (Kd.int .u8) w0 A l.length l) (hc : l.length ≤ c) (hr1 : Kd.C (Kd.int .u8) w0 B l2.length l2) (hc1 : l2.length ≤ d) (h : laws_r8Long.f l l2 = some r) :
    Calls Try.prog 8 #[.slice A l.length c, .slice B l2.length d] w fun e w' => e = .returned (.bool r) ∧ Pool w0 w' L := by
  refine (laws_r8Long.calls A c l B d l2 r w (Kd.C_below hr P.1) hc (Kd.C_below hr1 P.1) hc1 h).mono ?_
  rintro e w' ⟨rfl, hb⟩
  exact ⟨rfl, P.below hb.below⟩
theorem atW (l : List Int) (a b r : Int) (P : Pool w0 w L) (hr : Kd.C (Kd.int .u8) w0 A l.length l) (hc : l.length ≤ c) (h : laws_r8At.f l a b = some r) :
    Calls Try.prog 10 #[.slice A l.length c, .int .i64 a, .int .i64 b] w fun e w' => e = .returned (.int .i64 r) ∧ Pool w0 w' L := by
  refine (laws_r8At.calls A c l a b r w (Kd.C_below hr P.1) hc h).mono ?_
  rintro e w' ⟨rfl, hb⟩
  exact ⟨rfl, P.below hb.below⟩
theorem parcW (k : Nat) {l l2 : List S97} (r : Bool) (P : Pool w0 w L) (hC : n = l.length ∧ n ≤ c ∧ Kd.C k97 w A l.length l) (hD : l2.length ≤ d ∧ Kd.C k97 w B l2.length l2) (h : laws_r8Parcels.f k l l2 = some r) :
    Calls Try.prog 27 #[.slice A n c, .slice B l2.length d] w fun e w' => e = .returned (.bool r) ∧ Pool w0 w' L := by
  obtain ⟨rfl, h1, h2⟩ := hC
  refine (laws_r8Parcels.calls k A c l B d l2 r w h2 h1 hD.2 hD.1 h).mono ?_
  rintro e w' ⟨rfl, hb⟩
  exact ⟨rfl, P.below hb.below⟩
theorem validL (k : Nat) (lim : Int) (r : Bool) (P : Pool w0 w L) (hC : n = xs.length ∧ n ≤ c ∧ Kd.C k58 w A xs.length xs) (h : impl_ValidPost.f k lim xs = some r) :
    Calls Try.prog 28 #[.agg #[.int .i64 lim, .slice A n c]] w fun e w' => e = .returned (.bool r) ∧ Pool w0 w' L := by
  obtain ⟨rfl, h1, h2⟩ := hC
  refine (impl_ValidPost.calls k lim _ _ xs r w h2 h1 h).mono ?_
  rintro e w' ⟨rfl, hb⟩
  exact ⟨rfl, P.below hb⟩
end
section
variable {ops : Array Oper} {o : Oper} {a : Act} {Q : Exit → Act → World → Prop} {K : Act → World → Prop} {w0 W : World} {L : List Res} {v : Value}
/-- append(row of parcels, parcels...), in a region that draws. -/
theorem appP_step {xs ys : List S97} {A : Option Addr} {m c : Nat} (P : Pool w0 W L) (i : Nat) (hi : L[i]? = some (rrow k97 97 w0.heap.size v xs)) (hC : m = ys.length ∧ m ≤ c ∧ Kd.C k97 W A ys.length ys) (hw : Region.wanted o (yielded ops a.tmps) = true) (s y : Operand) (ho : o.op = .call { callee := .builtin .append, args := #[s, y], argTypes := #[56, 56] })
    (hs : a.eval s = v) (hx : a.eval y = .slice A m c) (hl : xs.length + ys.length ≤ 1000)
    (h : ∀ D c w1 zs, zs = xs ++ ys → Pool w0 w1 (L.set i (rrow k97 97 w0.heap.size (.slice D zs.length c) zs)) → K (a.put o.dst (.slice D zs.length c)) w1) :
    if Region.wanted o (yielded ops a.tmps) = true then Oper.wp Try.prog o a W K Q else K (a.put o.dst undef) W := by
  obtain ⟨rfl, h1, h2⟩ := hC
  refine Kd.R_append_rows_step k97 (Rr := k97.K W) (w0 := w0) w0.heap.size hw s y 56 97 _ _ ho Try.underlying56 info97 (by rfl) (by decide) (by decide) v xs ys A ys.length c (fun k => some k = v.ownBlock ∨ W.heap.size ≤ k) (fun _ => False) hs hx (Kd.R_mono (P.rown i hi) (fun k hk => .inl hk)) h2 (fun x cs hk => by rw [k97_open hk]; exact k97_mkM _ _ _ x) (fun _ hk => hk.elim) (fun k hk => .inr hk) P.1 (below_size P.1) (by omega) ?_
  intro v1 w1 hR hb hg _
  obtain ⟨D, c, rfl, P2⟩ := Pool.pushed P i hi rfl hR hb hg
  exact h D c w1 _ rfl P2
end
end Go.Proofs.Ytdanachjdfiegaa.QFnTaken
