-- by hand
import Derived.Test.YtdanachjdfiegaaQFnTakenx2
import Derived.Test.YtdanachjdfiegaaQFnTakenx17
namespace Go.Proofs.Ytdanachjdfiegaa.QFnTaken
open Go.RowKit Go.Proofs.YtdanachjdfiegaaW.PrintWords Go.Proofs.YtdanachjdfiegaaW.PrintLast Go.Proofs.YtdanachjdfiegaaW.PrintMore
attribute [local go_sem] max2_int min2_int max_two min_two max_three min_three max_four min_four   -- for this text's walks alone
set_option linter.unusedVariables false
set_option linter.unusedSimpArgs false
theorem spec_l00From.raw (A : Option Addr) (c : Nat) (l : List Int) (w : World) :
    Calls Try.prog 29 #[.slice A l.length c] w fun e w' => ∃ g, e = .returned (.pointer (some ⟨g, 0, none⟩)) ∧ w.heap.size ≤ g ∧ w'.heap[g]? = some (.cells #[.slice A l.length c, .int .i64 0, .int .u64 0] 111 (0, 0)) ∧ Below w.heap.size w w' := by
  have hu111 := Try.underlying111
  have P := Pool.nil w
  go_enter Try.func29, Try.ntmps29
  go_wp2_with (first | ((with_reducible refine gate_dst (N := 5) rfl ?_); (try (refine gate_guard (by rfl) ?_; dsimp only)); refine bx_ 5 #[.slice A l.length c, .int .i64 0, .int .u64 0] 111 ?_; intro g5 hg w1 hbox hb; replace P := P.box hg hbox hb; clear hb hbox hg))
  go_ret
  exact ⟨_, rfl, P.base 0 rfl, P.cell 0 rfl, P.1⟩
/-- A source of choices, as one of the pool's. -/
def rsrc (W : World) (g : Nat) (s : List Int) (a b : Int) : Res where
  F w ok := ok g ∧ IsS111 W w g s a b
  step h hm := by
    obtain ⟨h0, A, c, h1, h2, h3⟩ := h
    exact ⟨h0, A, c, (hm g h0 (blk_lt h1)).trans h1, h2, h3⟩
  mono h hm := ⟨hm _ h.1, h.2⟩
section
variable {w0 w w1 : World} {L : List Res} {A : Option Addr} {n c g : Nat} {s : List Int} {a b : Int} {xs ys : List S58}
theorem Pool.src (P : Pool w0 w L) (i : Nat) (hi : L[i]? = some (rsrc w0 g s a b)) : IsS111 w0 w g s a b := by
  obtain ⟨ok, h⟩ := P.get i _ hi
  exact h.2
theorem Pool.srcTo {a1 b1 : Int} (P : Pool w0 w L) (i : Nat) (hi : L[i]? = some (rsrc w0 g s a b)) (hI : IsS111 w0 w1 g s a1 b1) (hB : Below w0.heap.size w0 w1) (hk : KeepBut w w1 g none) : Pool w0 w1 (L.set i (rsrc w0 g s a1 b1)) :=
  P.turn i _ _ hi (fun k => k = g) hB ⟨hk.1, fun k h1 h2 => hk.2 k h1 h2 (by simp)⟩ (fun ok hok => ⟨hok g rfl, hI⟩) (fun ok hF k hk => by subst hk; exact hF.1)
theorem fromR (P : Pool w0 w L) (hr : Kd.C (Kd.int .u8) w0 A s.length s) (hc : s.length ≤ c) :
    Calls Try.prog 29 #[.slice A s.length c] w fun e w' => ∃ g, e = .returned (.pointer (some ⟨g, 0, none⟩)) ∧ Pool w0 w' (L ++ [rsrc w0 g s 0 0]) := by
  refine (spec_l00From.raw A c s w).mono ?_
  rintro e w' ⟨g, rfl, hg, h1, hb⟩
  exact ⟨g, rfl, P.add hb _ ⟨⟨hg, blk_lt h1⟩, A, c, h1, Nat.le_trans (below_size P.1) hg, hr⟩⟩
theorem pickR (q r a1 b1 : Int) (P : Pool w0 w L) (i : Nat) (hi : L[i]? = some (rsrc w0 g s a b)) (h : spec_l00Src_pick.f s a b q = some (r, a1, b1)) :
    Calls Try.prog 59 #[.pointer (some ⟨g, 0, none⟩), .int .i64 q] w fun e w' => e = .returned (.int .i64 r) ∧ Pool w0 w' (L.set i (rsrc w0 g s a1 b1)) := by
  refine (spec_l00Src_pick.calls g s a b q r a1 b1 w0 w (Pool.src P i hi) P.1 h).mono ?_
  rintro e w' ⟨rfl, hI, hB, hk⟩
  exact ⟨rfl, Pool.srcTo P i hi hI hB hk⟩
theorem textR (l : List ByteArray) (r : ByteArray) (a1 b1 : Int) (P : Pool w0 w L) (i j : Nat) (hi : L[i]? = some (rsrc w0 g s a b)) (hj : L[j]? = some (rrow Kd.string 9 w0.heap.size (.slice A n c) l)) (hij : i ≠ j) (h : spec_l00Src_text.f s a b l = some (r, a1, b1)) :
    Calls Try.prog 60 #[.pointer (some ⟨g, 0, none⟩), .slice A n c] w fun e w' => e = .returned (.string r) ∧ Pool w0 w' (L.set i (rsrc w0 g s a1 b1)) := by
  have hR := P.rown j hj
  obtain ⟨rfl, h1, h2⟩ := P.reads j hj
  refine (spec_l00Src_text.calls g s a b A c l r a1 b1 w0 w (Pool.src P i hi) P.1 h2 h1 (fun ad ha hp e => ?_) h).mono ?_
  · obtain ⟨g', cap, hv, -⟩ := Kd.R_form hR hp
    rw [ha] at hv
    injection hv with h3 _ _
    injection h3 with h3
    obtain ⟨-, cc, hc⟩ := P
    have c1 := (hc i _ hi).1.1
    have c2 := ((hc j _ hj).1 g' (by rw [ha, h3]; rfl)).1.1
    rw [h3] at e
    subst e
    exact hij (c1.symm.trans c2)
  · rintro e w' ⟨rfl, hI, hB, hk⟩
    exact ⟨rfl, Pool.srcTo P i hi hI hB hk⟩
theorem newQ {α : Type} {d : Kd α} {e : Nat} {v : Value} {zs : List α} (hE : d.E = []) (P : Pool w0 w L) (hb : Below w.heap.size w w1) (h : d.R e w1 w.heap.size (fun _ => True) v zs) : ∃ D e0, v = .slice D zs.length e0 ∧ Pool w0 w1 (L ++ [rrow d e w0.heap.size (.slice D zs.length e0) zs]) := by
  obtain ⟨D, e0, rfl⟩ := Kd.R_slice h
  exact ⟨D, e0, rfl, P.add hb _ (Kd.R_lower (Kd.R_mono (Kd.R_bound (Kd.R_tight hE h)) (fun k hk => ⟨⟨hk.2.1, hk.2.2.1⟩, hk.1⟩)) (below_size P.1))⟩
theorem newS0 {v : Value} {ok : Nat → Prop} (P : Pool w0 w L) (hb : Below w.heap.size w w1) (hS : Kd.S k58 58 w1 w.heap.size ok v []) : ∃ D d, v = .slice D 0 d ∧ Pool w0 w1 (L ++ [rS w0.heap.size D 0 d []]) := rS_new P hb hS
/-- What a box put into a post comes to. -/
def AddTo (k : Nat) (lim : Int) (xs : List S58) (tok : ByteArray) (mem : Int) (ys : List S58) : Prop :=
  spec_l04Is.f k lim xs = some true ∧ ((∃ r, r ≥ 0 ∧ spec_l04Find.f k lim xs tok = some r ∧ ys = xs) ∨
    (spec_l04Find.f k lim xs tok = some (-1) ∧ ∃ i0, i0 ≤ xs.length ∧ xs.length ≤ 900 ∧ spec_l04Copy.f k lim xs = some (lim, xs) ∧ (∀ j x, j < i0 → xs[j]? = some x → Op.bytesLess x.f0.toList tok.toList = true) ∧ (∀ x, xs[i0]? = some x → Op.bytesLess x.f0.toList tok.toList = false ∧ (x.f0.toList == tok.toList) = false) ∧ ys = xs.take i0 ++ ⟨tok, mem, 0, []⟩ :: xs.drop i0 ∧ spec_l04Is.f k lim ys = some true))
theorem addR (k : Nat) (lim : Int) (tok : ByteArray) (mem : Int) (i0 : Nat) (P : Pool w0 w L) (j : Nat) (hj : L[j]? = some (rS w0.heap.size A n c xs)) (hv : spec_l04Is.f k lim xs = some true) (hf : spec_l04Find.f k lim xs tok = some (-1)) (hi0 : i0 ≤ xs.length) (hlen : xs.length ≤ 900) (hcp : spec_l04Copy.f k lim xs = some (lim, xs)) (hlt : ∀ j x, j < i0 → xs[j]? = some x → Op.bytesLess x.f0.toList tok.toList = true) (hgt : ∀ x, xs[i0]? = some x → Op.bytesLess x.f0.toList tok.toList = false ∧ (x.f0.toList == tok.toList) = false) (hys : ys = xs.take i0 ++ ⟨tok, mem, 0, []⟩ :: xs.drop i0) (hg : spec_l04Is.f k lim ys = some true) :
    Calls Try.prog 61 #[.agg #[.int .i64 lim, .slice A n c], .string tok, .int .i64 mem] w fun e w' => ∃ D d, e = .returned (.tuple #[.agg #[.int .i64 lim, .slice D ys.length d], .bool true]) ∧ Pool w0 w' (L ++ [rS w0.heap.size D ys.length d ys]) := by
  obtain ⟨rfl, h1, h2⟩ := rS_at P j hj
  refine (spec_AddBox.ok k lim _ _ xs tok mem i0 w h2 h1 hv hi0 hf hcp hlt hgt hlen ys hys hg).mono ?_
  rintro e w' ⟨D, d, rfl, hS, hb⟩
  obtain ⟨D', d', e1, Q⟩ := rS_new P hb hS
  injection e1 with e1 e2 e3
  subst e1 e3
  exact ⟨D, d, rfl, Q⟩
theorem addN (k : Nat) (lim : Int) (tok : ByteArray) (mem r : Int) (P : Pool w0 w L) (j : Nat) (hj : L[j]? = some (rS w0.heap.size A n c xs)) (hv : spec_l04Is.f k lim xs = some true) (hf : spec_l04Find.f k lim xs tok = some r) (hr : r ≥ 0) :
    Calls Try.prog 61 #[.agg #[.int .i64 lim, .slice A n c], .string tok, .int .i64 mem] w fun e w' => e = .returned (.tuple #[.agg #[.int .i64 0, .slice none 0 0], .bool false]) ∧ Pool w0 w' L := by
  obtain ⟨rfl, h1, h2⟩ := rS_at P j hj
  refine (spec_AddBox.no k lim _ _ xs tok mem r w h2 h1 hv hf hr).mono ?_
  rintro e w' ⟨rfl, hb⟩
  exact ⟨rfl, P.below hb⟩
end
/-- The five tokens. -/
def tk5 : List ByteArray := [⟨#[97, 97, 97, 97, 97, 97, 97, 97, 97, 97, 97, 97, 97, 97, 97, 97]⟩, ⟨#[97, 97, 97, 97, 97, 97, 97, 97, 97, 97, 97, 97, 97, 97, 97, 98]⟩, ⟨#[98, 98, 98, 98, 98, 98, 98, 98, 98, 98, 98, 98, 98, 98, 98, 98]⟩, ⟨#[48, 49, 50, 51, 52, 53, 54, 55, 56, 57, 97, 98, 99, 100, 101, 102]⟩, ⟨#[99, 99, 99, 99, 99, 99, 99, 99, 99, 99, 99, 99, 99, 99, 99, 99]⟩]
/-- The boxes are drawn. -/
def Draw1 (k : Nat) (s : List Int) (lim : Int) : Nat → Int → Int → List S58 → Int → Int → List S58 → Prop
  | 0, a, b, xs, a', b', xs' => a = a' ∧ b = b' ∧ xs = xs'
  | n + 1, a, b, xs, a', b', xs' => ∃ tok a1 b1 m a2 b2 ys, spec_l00Src_text.f s a b tk5 = some (tok, a1, b1) ∧ spec_l00Src_pick.f s a1 b1 4 = some (m, a2, b2) ∧ AddTo k lim xs tok (wrap64 (1 + m)) ys ∧ Draw1 k s lim n a2 b2 ys a' b' xs'
/-- The parcels of a box are drawn. -/
def Hold (s : List Int) : Nat → Int → Int → List S97 → Int → Int → List S97 → Prop
  | 0, a, b, hs, a', b', hs' => a = a' ∧ b = b' ∧ hs = hs'
  | n + 1, a, b, hs, a', b', hs' => hs.length ≤ 1000 ∧ ∃ r a1 b1 m a2 b2, spec_l00Src_pick.f s a b 4 = some (r, a1, b1) ∧ spec_l00Src_pick.f s a1 b1 50 = some (m, a2, b2) ∧ Hold s n a2 b2 (hs ++ [⟨wrap64 (1 + r), wrap64 (1 + m)⟩]) a' b' hs'
/-- What all boxes hold is drawn. -/
def Draw2 (s : List Int) (q : Int) : List S58 → Int → Int → List S58 → Prop
  | [], _, _, res => res = []
  | x :: t, a, b, res => ∃ (n : Nat) (a1 b1 a2 b2 : Int) (hs : List S97) (ms a3 b3 : Int) (res' : List S58), n ≤ 1000 ∧ spec_l00Src_pick.f s a b q = some ((n : Int), a1, b1) ∧ Hold s n a1 b1 x.f3 a2 b2 hs ∧ spec_l00Src_pick.f s a2 b2 3 = some (ms, a3, b3) ∧ res = ⟨x.f0, x.f1, ms, hs⟩ :: res' ∧ Draw2 s q t a3 b3 res'
end Go.Proofs.Ytdanachjdfiegaa.QFnTaken
