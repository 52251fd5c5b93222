-- by hand, over one pool
import Derived.Test.YtdanachjdfiegaaQFnTakenx6
import Derived.Test.YtdanachjdfiegaaQFnTakenx7
import Derived.Test.YtdanachjdfiegaaQFnTakenx8
import Derived.Test.YtdanachjdfiegaaQFnTakenx11
namespace Go.Proofs.Ytdanachjdfiegaa.QFnTaken
open Go.RowKit Go.Proofs.YtdanachjdfiegaaW.PrintWords Go.Proofs.YtdanachjdfiegaaW.PrintLast Go.Proofs.YtdanachjdfiegaaW.PrintMore
attribute [local go_sem] max2_int min2_int max_two min_two max_three min_three max_four min_four   -- for this text's walks alone
set_option linter.unusedVariables false
set_option linter.unusedSimpArgs false
/-- A row of boxes, each with parcels of its own, as one of the pool's. -/
def rS (base : Nat) (D : Option Addr) (n d : Nat) (xs : List S58) : Res where
  F w ok := Kd.S k58 58 w base ok (.slice D n d) xs
  step h hm := Kd.S_step h hm
  mono h hm := Kd.S_mono h hm
section
variable {w0 w w1 : World} {L : List Res} {A B : Option Addr} {n m c d : Nat} {xs ys : List S58}
theorem rS_new (P : Pool w0 w L) (hb : Below w.heap.size w w1) {v : Value} {ok : Nat → Prop} (hS : Kd.S k58 58 w1 w.heap.size ok v xs) : ∃ D d, v = .slice D xs.length d ∧ Pool w0 w1 (L ++ [rS w0.heap.size D xs.length d xs]) := by
  obtain ⟨D, d, rfl⟩ := Kd.S_slice hS
  exact ⟨D, d, rfl, P.add hb _ (Kd.S_lower (Kd.S_mono (Kd.S_bound hS) (fun k hk => ⟨hk.2.1, hk.2.2.1⟩)) (below_size P.1))⟩
theorem rS_at (P : Pool w0 w L) (i : Nat) (hi : L[i]? = some (rS w0.heap.size A n c xs)) : n = xs.length ∧ n ≤ c ∧ Kd.C k58 w A xs.length xs := by
  obtain ⟨ok, h⟩ := P.get i _ hi
  exact Kd.S_reads' h
theorem rS_some (P : Pool w0 w L) (i : Nat) (hi : L[i]? = some (rS w0.heap.size A n c xs)) (hp : 0 < xs.length) : ∃ g, A = some ⟨g, 0, none⟩ := by
  obtain ⟨ok, h⟩ := P.get i _ hi
  obtain ⟨g, cap, hv, _⟩ := Kd.S_form h hp
  injection hv with h1
  exact ⟨g, h1⟩
/-- A row of boxes that is changed in place, and a row of parcels that comes of it. -/
theorem Pool.chgNew (P : Pool w0 w L) (j : Nat) (hj : L[j]? = some (rS w0.heap.size A n d xs)) : ∃ ok : Nat → Prop, Kd.S k58 58 w w0.heap.size ok (.slice A n d) xs ∧ (∀ k, ok k → k < w.heap.size) ∧
    ∀ (w1 : World) (xs' : List S58) (v : Value) (ys : List S97), Below w0.heap.size w0 w1 → Kept w w1 ok → Kd.S k58 58 w1 w0.heap.size ok (.slice A n d) xs' → Kd.R k97 97 w1 w.heap.size (fun _ => True) v ys →
      Pool w0 w1 (L.set j (rS w0.heap.size A n d xs') ++ [rrow k97 97 w0.heap.size v ys]) := by
  obtain ⟨h0, c, hc⟩ := P
  refine ⟨fun k => c k = j ∧ w0.heap.size ≤ k ∧ k < w.heap.size, hc j _ hj, fun k hk => hk.2.2, fun w1 xs' v ys hb hk hS hR => ⟨hb, fun k => if k < w.heap.size then c k else L.length, fun q r hq => ?_⟩⟩
  have hj2 : j < L.length := (List.getElem?_eq_some_iff.1 hj).1
  rcases Nat.lt_or_ge q L.length with hlt | hge
  · rw [List.getElem?_append_left (by simpa using hlt), List.getElem?_set] at hq
    by_cases e : j = q
    · subst e
      rw [if_pos rfl, if_pos hj2] at hq
      obtain rfl : rS w0.heap.size A n d xs' = r := by simpa using hq
      refine Kd.S_mono hS (fun k hk' => ⟨?_, hk'.2.1, Nat.lt_of_lt_of_le hk'.2.2 hk.1⟩)
      simp only [if_pos hk'.2.2]
      exact hk'.1
    · rw [if_neg e] at hq
      refine r.mono (r.step (hc q r hq) (fun k hk' hlt2 => hk.2 k hlt2 (fun hs => e (hs.1.symm.trans hk'.1)))) (fun k hk' => ⟨?_, hk'.2.1, Nat.lt_of_lt_of_le hk'.2.2 hk.1⟩)
      simp only [if_pos hk'.2.2]
      exact hk'.1
  · rw [List.getElem?_append_right (by simpa using hge)] at hq
    have hz : q - (L.set j (rS w0.heap.size A n d xs')).length = 0 := by
      rcases Nat.eq_zero_or_pos (q - (L.set j (rS w0.heap.size A n d xs')).length) with h | h
      · exact h
      · rw [List.getElem?_eq_none (by simp at h ⊢; omega)] at hq
        cases hq
    rw [hz] at hq
    obtain rfl : rrow k97 97 w0.heap.size v ys = r := by simpa using hq
    refine Kd.R_lower (Kd.R_mono (Kd.R_bound (Kd.R_tight rfl hR)) (fun k hk => ⟨⟨?_, Nat.le_trans (below_size h0) hk.2.1, hk.2.2.1⟩, hk.1⟩)) (below_size h0)
    have h1 : w.heap.size ≤ k := hk.2.1
    simp only [if_neg (show ¬ k < w.heap.size by omega)]
    simp at hz hge
    omega
/-- The same, where what is new is the row's own. -/
theorem Pool.chg (P : Pool w0 w L) (j : Nat) (hj : L[j]? = some (rS w0.heap.size A n d xs)) : ∃ ok : Nat → Prop, Kd.S k58 58 w w0.heap.size ok (.slice A n d) xs ∧ (∀ k, ok k → k < w.heap.size) ∧
    ∀ (w1 : World) (xs' : List S58), Below w0.heap.size w0 w1 → Kept w w1 ok → Kd.S k58 58 w1 w0.heap.size (fun k => ok k ∨ w.heap.size ≤ k) (.slice A n d) xs' →
      Pool w0 w1 (L.set j (rS w0.heap.size A n d xs')) := by
  obtain ⟨h0, c, hc⟩ := P
  refine ⟨fun k => c k = j ∧ w0.heap.size ≤ k ∧ k < w.heap.size, hc j _ hj, fun k hk => hk.2.2, fun w1 xs' hb hk hS => ⟨hb, fun k => if k < w.heap.size then c k else j, fun q r hq => ?_⟩⟩
  have hj2 : j < L.length := (List.getElem?_eq_some_iff.1 hj).1
  rw [List.getElem?_set] at hq
  by_cases e : j = q
  · subst e
    rw [if_pos rfl, if_pos hj2] at hq
    obtain rfl : rS w0.heap.size A n d xs' = r := by simpa using hq
    refine Kd.S_mono (Kd.S_bound hS) (fun k hk' => ⟨?_, hk'.2.1, hk'.2.2.1⟩)
    rcases hk'.1 with h | h
    · simp only [if_pos h.2.2]
      exact h.1
    · simp only [if_neg (show ¬ k < w.heap.size by omega)]
  · rw [if_neg e] at hq
    refine r.mono (r.step (hc q r hq) (fun k hk' hlt2 => hk.2 k hlt2 (fun hs => e (hs.1.symm.trans hk'.1)))) (fun k hk' => ⟨?_, hk'.2.1, Nat.lt_of_lt_of_le hk'.2.2 hk.1⟩)
    simp only [if_pos hk'.2.2]
    exact hk'.1
theorem validW (k : Nat) (lim : Int) (r : Bool) (P : Pool w0 w L) (hr : Kd.C k58 w0 A xs.length xs) (hc : xs.length ≤ c) (h : impl_ValidPost.f k lim xs = some r) :
    Calls Try.prog 28 #[.agg #[.int .i64 lim, .slice A xs.length c]] w fun e w' => e = .returned (.bool r) ∧ Pool w0 w' L := by
  refine (impl_ValidPost.calls k lim _ _ xs r w (Kd.C_below hr P.1) hc h).mono ?_
  rintro e w' ⟨rfl, hb⟩
  exact ⟨rfl, P.below hb⟩
theorem validR (k : Nat) (lim : Int) (r : Bool) (P : Pool w0 w L) (j : Nat) (hj : L[j]? = some (rS w0.heap.size A n c xs)) (h : impl_ValidPost.f k lim xs = some r) :
    Calls Try.prog 28 #[.agg #[.int .i64 lim, .slice A n c]] w fun e w' => e = .returned (.bool r) ∧ Pool w0 w' L := by
  obtain ⟨rfl, h1, h2⟩ := rS_at P j hj
  refine (impl_ValidPost.calls k lim _ _ xs r w h2 h1 h).mono ?_
  rintro e w' ⟨rfl, hb⟩
  exact ⟨rfl, P.below hb⟩
theorem cloneW (k : Nat) (lim : Int) (P : Pool w0 w L) (hr : Kd.C k58 w0 A xs.length xs) (hc : xs.length ≤ c) (h : impl_clonePost.f k lim xs = some (lim, xs)) :
    Calls Try.prog 91 #[.agg #[.int .i64 lim, .slice A xs.length c]] w fun e w' => ∃ D d, e = .returned (.agg #[.int .i64 lim, .slice D xs.length d]) ∧ Pool w0 w' (L ++ [rS w0.heap.size D xs.length d xs]) := by
  refine (impl_clonePost.calls k lim _ _ xs lim xs w (Kd.C_below hr P.1) hc h).mono ?_
  rintro e w' ⟨v, rfl, hS, hb⟩
  obtain ⟨D, d, rfl, Q⟩ := rS_new P hb hS
  exact ⟨D, d, rfl, Q⟩
theorem atR {g : Nat} (k : Nat) (lim : Int) (tok : ByteArray) (i : Int) (b : Bool) (P : Pool w0 w L) (j q : Nat) (hj : L[j]? = some (rS w0.heap.size A n c xs)) (hq : L[q]? = some (rbox g #[.int .i64 lim, .slice A n c] 54)) (h : impl_Post_at_n64.f k lim xs tok = some (i, b)) :
    Calls Try.prog 64 #[.pointer (some ⟨g, 0, none⟩), .string tok] w fun e w' => e = .returned (.tuple #[.int .i64 i, .bool b]) ∧ Pool w0 w' L := by
  obtain ⟨rfl, h1, h2⟩ := rS_at P j hj
  refine (impl_Post_at_n64.calls k g lim _ _ xs tok i b w (P.cell q hq) h2 h1 h).mono ?_
  rintro e w' ⟨rfl, hb⟩
  exact ⟨rfl, P.below hb⟩
theorem inW (a b c : Int) (r : Bool) (P : Pool w0 w L) (h : impl_in.f a b c = some r) : Calls Try.prog 31 #[.int .i64 a, .int .i64 b, .int .i64 c] w fun e w' => e = .returned (.bool r) ∧ Pool w0 w' L := by
  refine (impl_in.calls a b c r w h).mono ?_
  rintro e w' ⟨rfl, hb⟩
  exact ⟨rfl, P.below hb.below⟩
theorem newP {v : Value} {ys : List S97} (P : Pool w0 w L) (hb : Below w.heap.size w w1) (g : Kd.R k97 97 w1 w.heap.size (fun _ => True) v ys) : ∃ D e0, v = .slice D ys.length e0 ∧ Pool w0 w1 (L ++ [rrow k97 97 w0.heap.size (.slice D ys.length e0) ys]) := by
  obtain ⟨D, e0, rfl⟩ := Kd.R_slice g
  exact ⟨D, e0, rfl, P.add hb _ (Kd.R_lower (Kd.R_mono (Kd.R_bound (Kd.R_tight rfl g)) (fun k hk => ⟨⟨hk.2.1, hk.2.2.1⟩, hk.1⟩)) (below_size P.1))⟩
theorem takeP {g : Nat} (i m : Nat) (cnt : Int) (x : S58) (tk : List S97) (htk : tk = x.f3.take m) (P : Pool w0 w L) (j : Nat) (hj : L[j]? = some (rS w0.heap.size (some ⟨g, 0, none⟩) n d xs)) (hcnt : 0 ≤ cnt) (hx : xs[i]? = some x) (hmn : mn cnt (x.f3.length : Int) = (m : Int)) (hl : x.f3.length ≤ 1000) :
    Calls Try.prog 65 #[.pointer (some ⟨g, i * 4, none⟩), .int .i64 cnt] w fun e w' => ∃ E f, e = .returned (.tuple #[.slice E tk.length f, .int .i64 x.f2]) ∧ Pool w0 w' (L.set j (rS w0.heap.size (some ⟨g, 0, none⟩) n d (xs.set i ⟨x.f0, x.f1, 0, x.f3.drop m⟩)) ++ [rrow k97 97 w0.heap.size (.slice E tk.length f) tk]) := by
  subst htk
  obtain ⟨ok, hS, hlt, back⟩ := Pool.chgNew P j hj
  refine (impl_take.calls g n d i m cnt hcnt ok xs x w0 w P.1 hS hx hmn hl).mono ?_
  rintro e w' ⟨v, rfl, hR, hS2, hb, hk⟩
  obtain ⟨E, f, rfl⟩ := Kd.R_slice hR
  exact ⟨E, f, rfl, back w' _ _ _ hb hk hS2 hR⟩
end
set_option maxHeartbeats 40000000 in
set_option maxRecDepth 100000 in
theorem impl_TakeFrom.calls (k : Nat) (lim : Int) (A0 : Option Addr) (c0 : Nat) (xs : List S58) (tok : ByteArray) (cnt : Int) (i m : Nat) (x : S58) (tk : List S97) (htk : tk = x.f3.take m) (w : World) (hr : Kd.C k58 w A0 xs.length xs) (hc : xs.length ≤ c0) (hv : impl_ValidPost.f k lim xs = some true) (hcl : impl_clonePost.f k lim xs = some (lim, xs)) (hat : impl_Post_at_n64.f k lim xs tok = some ((i : Int), true)) (hin : impl_in.f cnt 0 64 = some true) (hcnt : 0 ≤ cnt) (hx : xs[i]? = some x) (hmn : mn cnt (x.f3.length : Int) = (m : Int)) (hl : x.f3.length ≤ 1000) (hg : impl_ValidPost.f k lim (xs.set i ⟨x.f0, x.f1, 0, x.f3.drop m⟩) = some true) :
    Calls Try.prog 25 #[.agg #[.int .i64 lim, .slice A0 xs.length c0], .string tok, .int .i64 cnt] w fun e w' => ∃ D d E f, e = .returned (.tuple #[.agg #[.int .i64 lim, .slice D (xs.set i ⟨x.f0, x.f1, 0, x.f3.drop m⟩).length d], .slice E tk.length f, .int .i64 x.f2, .bool true]) ∧ Pool w w' [rS w.heap.size D (xs.set i ⟨x.f0, x.f1, 0, x.f3.drop m⟩).length d (xs.set i ⟨x.f0, x.f1, 0, x.f3.drop m⟩), rrow k97 97 w.heap.size (.slice E tk.length f) tk] := by
 have hu52 := Try.underlying52
 have hu54 := Try.underlying54
 have hu56 := Try.underlying56
 have hu58 := Try.underlying58
 have hu97 := Try.underlying97
 have hi : i < xs.length := (List.getElem?_eq_some_iff.1 hx).1
 have HTK := Aside0.mk htk
 clear htk
 have P := Pool.nil w
 go_enter Try.func25, Try.ntmps25
 try go_wp2_with (first | ((with_reducible refine gate_dst (N := 3) rfl ?_); (try (refine gate_guard (by rfl) ?_; dsimp only)); refine bx_ 3 #[.int .i64 lim, .slice A0 xs.length c0] 54 ?_; intro g3 hg w1 hbox hb; replace P := P.box hg hbox hb; clear hb hbox hg; (try simp only [List.nil_append, List.cons_append, List.set_cons_zero, List.set_cons_succ] at P)) | ((with_reducible refine gate_dst (N := 4) rfl ?_); (try (refine gate_guard (by rfl) ?_; dsimp only)); refine bx_ 4 #[.string tok] 9 ?_; intro g4 hg w1 hbox hb; replace P := P.box hg hbox hb; clear hb hbox hg; (try simp only [List.nil_append, List.cons_append, List.set_cons_zero, List.set_cons_succ] at P)) | ((with_reducible refine gate_dst (N := 5) rfl ?_); (try (refine gate_guard (by rfl) ?_; dsimp only)); refine bx_ 5 #[.int .i64 cnt] 2 ?_; intro g5 hg w1 hbox hb; replace P := P.box hg hbox hb; clear hb hbox hg; (try simp only [List.nil_append, List.cons_append, List.set_cons_zero, List.set_cons_succ] at P)) | ((with_reducible refine gate_dst (N := 6) rfl ?_); (try (refine gate_guard (by rfl) ?_; dsimp only)); refine bx_ 6 #[.int .i64 0, .slice none 0 0] 54 ?_; intro g6 hg w1 hbox hb; replace P := P.box hg hbox hb; clear hb hbox hg; (try simp only [List.nil_append, List.cons_append, List.set_cons_zero, List.set_cons_succ] at P)) | ((with_reducible refine gate_dst (N := 14) rfl ?_); refine Kd.R_lit k97 _ 97 ?hg (N := 14) ?hd (xs := ([] : List S97)) (inner := []) (ok := fun _ => True) (okp := fun _ => True) ?hr ?hp (fun _ hk => hk) trivial (Below.refl _ _) (Nat.le_refl _) (by simp) ?_; (case hd => rfl); (case hg => rfl); (case hr => first | (go_simp; done) | (go_simp; rfl)); (case hp => exact (Reps.none _ _)); intro v14 w1 ho hb hg_ hnew_; obtain ⟨L14, l14, rfl, P2⟩ := newP P hb ho; clear P ho hb hg_ hnew_; have P := P2; clear P2; (try simp only [List.nil_append, List.cons_append, List.set_cons_zero, List.set_cons_succ] at P)) | ((with_reducible refine gate_dst (N := 10) rfl ?_); (try (refine gate_guard (by rfl) ?_; dsimp only)); refine bx_ 10 #[.slice none 0 0] 56 ?_; intro g10 hg w1 hbox hb; replace P := P.box hg hbox hb; clear hb hbox hg; (try simp only [List.nil_append, List.cons_append, List.set_cons_zero, List.set_cons_succ] at P)) | ((with_reducible refine gate_dst (N := 11) rfl ?_); (try (refine gate_guard (by rfl) ?_; dsimp only)); refine bx_ 11 #[.int .i64 0] 2 ?_; intro g11 hg w1 hbox hb; replace P := P.box hg hbox hb; clear hb hbox hg; (try simp only [List.nil_append, List.cons_append, List.set_cons_zero, List.set_cons_succ] at P); obtain ⟨cva, fva⟩ := P.c1 5 rfl; obtain ⟨cvb, fvb⟩ := P.c1 6 rfl) | ((with_reducible refine gate_store (p := 10) rfl ?_); refine st1 P 5 rfl rfl rfl rfl (by go_simp; rfl) ?_; clear P; intro w1 P; (try simp only [List.nil_append, List.cons_append, List.set_cons_zero, List.set_cons_succ] at P); obtain ⟨cvb, fvb⟩ := P.c1 6 rfl) | ((with_reducible refine gate_store (p := 11) rfl ?_); refine st1 P 6 rfl rfl rfl rfl (by go_simp; rfl) ?_; clear P; intro w1 P; (try simp only [List.nil_append, List.cons_append, List.set_cons_zero, List.set_cons_succ] at P); obtain ⟨ce0, ce1, fe0, fe1⟩ := P.c2 0 rfl))
 go_at_call 62
 go_in
 try go_wp2_with (first | ((with_reducible refine gate_dst (N := 2) rfl ?_); (try (refine gate_guard (by rfl) ?_; dsimp only)); refine bx_ 2 #[.int .i64 lim, .slice A0 xs.length c0] 54 ?_; intro gp hg w1 hbox hb; replace P := P.box hg hbox hb; clear hb hbox hg; (try simp only [List.nil_append, List.cons_append, List.set_cons_zero, List.set_cons_succ] at P)) | ((with_reducible refine gate_dst (N := 4) rfl ?_); (try (refine gate_guard (by rfl) ?_; dsimp only)); refine bx_ 4 #[.int .i64 0, .slice none 0 0] 54 ?_; intro gr hg w1 hbox hb; replace P := P.box hg hbox hb; clear hb hbox hg; (try simp only [List.nil_append, List.cons_append, List.set_cons_zero, List.set_cons_succ] at P); obtain ⟨ce0, ce1, fe0, fe1⟩ := P.c2 7 rfl) | ((with_reducible refine gate_dst (N := 8) rfl ?_); (with_reducible refine gate_callee (f := 28) rfl ?_); refine goesL_ (some 8) rfl rfl Try.func28 s2_ rfl #[.agg #[.int .i64 lim, .slice A0 xs.length c0]] rfl s3_ ?_; refine (validW k lim true P hr hc hv).mono ?_; clear P; rintro e w1 ⟨rfl, P⟩; refine ⟨_, rfl, ?_⟩; (try simp only [List.nil_append, List.cons_append, List.set_cons_zero, List.set_cons_succ] at P); obtain ⟨ce0, ce1, fe0, fe1⟩ := P.c2 7 rfl) | ((with_reducible refine gate_dst (N := 12) rfl ?_); (with_reducible refine gate_callee (f := 91) rfl ?_); refine goesL_ (some 12) rfl rfl Try.func91 s2_ rfl #[.agg #[.int .i64 lim, .slice A0 xs.length c0]] rfl s3_ ?_; refine (cloneW k lim P hr hc hcl).mono ?_; clear P; rintro e w1 ⟨D0, d, rfl, P⟩; refine ⟨_, rfl, ?_⟩; (try simp only [List.nil_append, List.cons_append, List.set_cons_zero, List.set_cons_succ] at P); obtain ⟨g, rfl⟩ := rS_some P 9 rfl (by omega)) | ((with_reducible refine gate_dst (N := 6) rfl ?_); (try (refine gate_guard (by rfl) ?_; dsimp only)); refine bx_ 6 #[.int .i64 0, .slice none 0 0] 54 ?_; intro gq hg w1 hbox hb; replace P := P.box hg hbox hb; clear hb hbox hg; (try simp only [List.nil_append, List.cons_append, List.set_cons_zero, List.set_cons_succ] at P); obtain ⟨ce0, ce1, fe0, fe1⟩ := P.c2 10 rfl) | ((with_reducible refine gate_store (p := 6) rfl ?_); refine st2 P 10 rfl rfl rfl rfl (by go_simp; rfl) ?_; clear P; intro w1 P; (try simp only [List.nil_append, List.cons_append, List.set_cons_zero, List.set_cons_succ] at P); obtain ⟨ce0, ce1, fe0, fe1⟩ := P.c2 10 rfl; obtain ⟨cv, fv⟩ := P.c1 1 rfl))
 go_at_call 63
 go_in
 try go_wp2_with (first | ((with_reducible refine gate_dst (N := 12) rfl ?_); (with_reducible refine gate_callee (f := 64) rfl ?_); refine goesL_ (some 12) rfl rfl Try.func64 s2_ rfl #[.pointer (some ⟨gq, 0, none⟩), .string tok] rfl s3_ ?_; refine (atR k lim tok (i : Int) true P 9 10 rfl rfl hat).mono ?_; clear P; rintro e w1 ⟨rfl, P⟩; refine ⟨_, rfl, ?_⟩; (try simp only [List.nil_append, List.cons_append, List.set_cons_zero, List.set_cons_succ] at P); obtain ⟨cv, fv⟩ := P.c1 2 rfl))
 try go_wp2_with (fail)
 refine (inW cnt 0 64 true P hin).mono ?_
 clear P
 rintro e w1 ⟨rfl, P⟩
 try go_wp2_with (fail)
 replace P := P.drew
 refine start_ (n := 13) (S := fun w' => C2 w' gq (.int .i64 lim) (.slice (some ⟨g, 0, none⟩) xs.length d) ∧ w'.cell? ⟨g5, 0, none⟩ = some (.int .i64 cnt)) (ds := [11, 12]) #[false,false,false,false,false,false,false,false,false,false,false,false,false] s2_ rfl rfl ⟨P.held2 10 rfl, (P.c1 2 rfl).1⟩ (fun hHeld => ?_)
 generalize World.drew _ = w1 at P hHeld ⊢
 refine pure_ (i := 0) (N := some 23) (v := ?_) (a' := ?_) #[true,false,false,false,false,false,false,false,false,false,false,false,false] rfl rfl s2_ (fun _ _ _ h => h) (Or.inl ⟨by rfl, ?_⟩) ?_ ?_
 rotate_left
 { intro w'; go_simp; with_reducible rfl }
 rotate_left
 · exact p1_
 refine pure_ (i := 1) (N := some 24) (v := ?_) (a' := ?_) #[true,true,false,false,false,false,false,false,false,false,false,false,false] rfl rfl s2_ (fun _ _ _ h => h) (Or.inl ⟨by rfl, ?_⟩) ?_ ?_
 rotate_left
 { intro w'; go_simp; with_reducible rfl }
 rotate_left
 · exact p1_
 refine pure_ (i := 2) (N := some 25) (v := ?_) (a' := ?_) #[true,true,true,false,false,false,false,false,false,false,false,false,false] rfl rfl s2_ (fun _ _ _ h => h) (Or.inl ⟨by rfl, ?_⟩) ?_ ?_
 rotate_left
 { intro w'; go_simp; with_reducible rfl }
 rotate_left
 · exact p1_
 refine take_ (i := 3) (N := some 26) (v := ?_) (a' := ?_) #[true,true,true,true,false,false,false,false,false,false,false,false,false] rfl rfl s2_ (fun _ _ _ h => h) (Or.inl ⟨by rfl, ?_⟩) hHeld ?_ ?_
 rotate_left
 { rintro w' ⟨⟨s0, s1⟩, s2⟩; go_simp; with_reducible rfl }
 rotate_left
 · exact p1_
 refine pure_ (i := 4) (N := some 27) (v := ?_) (a' := ?_) #[true,true,true,true,true,false,false,false,false,false,false,false,false] rfl rfl s2_ (fun _ _ _ h => h) (Or.inl ⟨by rfl, ?_⟩) ?_ ?_
 rotate_left
 { intro w'; go_simp; with_reducible rfl }
 rotate_left
 · exact p1_
 refine pure_ (i := 5) (N := some 28) (v := ?_) (a' := ?_) #[true,true,true,true,true,true,false,false,false,false,false,false,false] rfl rfl s2_ (fun _ _ _ h => h) (Or.inl ⟨by rfl, ?_⟩) ?_ ?_
 rotate_left
 { intro w'; go_simp; with_reducible rfl }
 rotate_left
 · exact p1_
 refine take_ (i := 6) (N := some 29) (v := ?_) (a' := ?_) #[true,true,true,true,true,true,true,false,false,false,false,false,false] rfl rfl s2_ (fun _ _ _ h => h) (Or.inl ⟨by rfl, ?_⟩) hHeld ?_ ?_
 rotate_left
 { rintro w' ⟨⟨s0, s1⟩, s2⟩; go_simp; with_reducible rfl }
 rotate_left
 · exact p1_
 refine one_ (i := 7) (N := some 30) #[true,true,true,true,true,true,true,true,false,false,false,false,false] rfl rfl s2_ (by decide) (fun K hK => ?_)
 refine goes_ Try.func65 s2_ rfl #[.pointer (some ⟨g, i * 4, none⟩), .int .i64 cnt] (by rfl) rfl rfl s3_ ?_
 refine (takeP i m cnt x tk HTK.out P 9 rfl hcnt hx hmn hl).mono ?_
 clear P
 rintro e_ w1 ⟨E, f, rfl, P⟩
 (try simp only [List.nil_append, List.cons_append, List.set_cons_zero, List.set_cons_succ] at P)
 refine ⟨_, rfl, ?_⟩
 refine hK.out _ _ ⟨P.held2 10 rfl, (P.c1 2 rfl).1⟩ (fun hHeld => ?_)
 clear hK K
 refine norm_ (a' := ?_) ?_ ?_; rotate_left; { show Act.put _ (some 30) _ = _; simp only [Act.put, List.setIfInBounds_toArray, List.set_cons_zero, List.set_cons_succ, i64_w, i32_w]; rfl }
 refine pure_ (i := 8) (N := some 22) (v := ?_) (a' := ?_) #[true,true,true,true,true,true,true,true,true,false,false,false,false] rfl rfl s2_ (fun _ _ _ h => h) (Or.inl ⟨by rfl, ?_⟩) ?_ ?_
 rotate_left
 { intro w'; go_simp; with_reducible rfl }
 rotate_left
 · exact p1_
 refine pure_ (i := 9) (N := some 31) (v := ?_) (a' := ?_) #[true,true,true,true,true,true,true,true,true,true,false,false,false] rfl rfl s2_ (fun _ _ _ h => h) (Or.inl ⟨by rfl, ?_⟩) ?_ ?_
 rotate_left
 { intro w'; go_simp; with_reducible rfl }
 rotate_left
 · exact p1_
 refine pure_ (i := 10) (N := some 32) (v := ?_) (a' := ?_) #[true,true,true,true,true,true,true,true,true,true,true,false,false] rfl rfl s2_ (fun _ _ _ h => h) (Or.inl ⟨by rfl, ?_⟩) ?_ ?_
 rotate_left
 { intro w'; go_simp; with_reducible rfl }
 rotate_left
 · exact p1_
 refine last_ (i := 11) (N := none) #[true,true,true,true,true,true,true,true,true,true,true,true,false] rfl rfl s2_ (by decide) (fun K hK => ?_)
 obtain ⟨cv, fv⟩ := P.c1 5 rfl
 have P2 := P.set1 (x := .slice E tk.length f) (cs' := #[.slice E tk.length f]) 5 0 rfl rfl
 refine skip_ (w1 := ?_) (by rfl) rfl ?_ ?_; rotate_left; { go_simp; rfl }
 refine hK.out _ _ ?_
 clear hK K P
 revert P2; generalize World.setCell _ _ _ = w1; intro P
 (try simp only [List.nil_append, List.cons_append, List.set_cons_zero, List.set_cons_succ] at P)
 refine last_ (i := 12) (N := none) #[true,true,true,true,true,true,true,true,true,true,true,true,true] rfl rfl s2_ (by decide) (fun K hK => ?_)
 obtain ⟨cv, fv⟩ := P.c1 6 rfl
 have P2 := P.set1 (x := .int .i64 x.f2) (cs' := #[.int .i64 x.f2]) 6 0 rfl rfl
 refine skip_ (w1 := ?_) (by rfl) rfl ?_ ?_; rotate_left; { go_simp; rfl }
 refine hK.out _ _ ?_
 clear hK K P
 revert P2; generalize World.setCell _ _ _ = w1; intro P
 (try simp only [List.nil_append, List.cons_append, List.set_cons_zero, List.set_cons_succ] at P)
 refine done_ s2_ ?_
 obtain ⟨ce0, ce1, fe0, fe1⟩ := P.c2 10 rfl
 try go_wp2_with (first | (go_at_call 28; refine (validR k lim true P 9 rfl hg).mono ?_; clear P; rintro e w1 ⟨rfl, P⟩; obtain ⟨ce0, ce1, fe0, fe1⟩ := P.c2 10 rfl; obtain ⟨ce0b, ce1b, fe0b, fe1b⟩ := P.c2 8 rfl) | ((with_reducible refine gate_store (p := 4) rfl ?_); refine st2 P 8 rfl rfl rfl rfl (by go_simp; rfl) ?_; clear P; intro w1 P; (try simp only [List.nil_append, List.cons_append, List.set_cons_zero, List.set_cons_succ] at P)))
 (try simp only [Exit.inBlock, Exit.then])
 refine bodyPost_ret (results_ct rfl _ _ gr 54 #[.int .i64 lim, .slice (some ⟨g, 0, none⟩) xs.length d] (0, 0) _ rfl (P.cell 8 rfl) Try.underlying54 rfl s2_) rfl ?_
 (try simp only [])
 try go_wp2_with (first | ((with_reducible refine gate_dst (N := 12) rfl ?_); (try (refine gate_guard (by rfl) ?_; dsimp only)); refine bx_ 12 #[.int .i64 0, .slice none 0 0] 54 ?_; intro g12 hg w1 hbox hb; replace P := P.box hg hbox hb; clear hb hbox hg; (try simp only [List.nil_append, List.cons_append, List.set_cons_zero, List.set_cons_succ] at P); obtain ⟨ce0, ce1, fe0, fe1⟩ := P.c2 12 rfl) | ((with_reducible refine gate_store (p := 12) rfl ?_); refine st2 P 12 rfl rfl rfl rfl (by go_simp; rfl) ?_; clear P; intro w1 P; (try simp only [List.nil_append, List.cons_append, List.set_cons_zero, List.set_cons_succ] at P)))
 replace P := P.drew
 refine start_ (n := 7) (S := fun w' => C2 w' g12 (.int .i64 lim) (.slice (some ⟨g, 0, none⟩) xs.length d) ∧ w'.cell? ⟨g10, 0, none⟩ = some (.slice E tk.length f) ∧ w'.cell? ⟨g11, 0, none⟩ = some (.int .i64 x.f2)) (ds := []) #[false,false,false,false,false,false,false] s2_ rfl rfl ⟨P.held2 12 rfl, (P.c1 5 rfl).1, (P.c1 6 rfl).1⟩ (fun hHeld => ?_)
 generalize World.drew _ = w1 at P hHeld ⊢
 refine take_ (i := 0) (N := some 24) (v := ?_) (a' := ?_) #[true,false,false,false,false,false,false] rfl rfl s2_ (fun _ _ _ h => h) (Or.inl ⟨by rfl, ?_⟩) hHeld ?_ ?_
 rotate_left
 { rintro w' ⟨⟨s0, s1⟩, s2, s3⟩; go_simp; with_reducible rfl }
 rotate_left
 · exact p1_
 refine take_ (i := 1) (N := some 25) (v := ?_) (a' := ?_) #[true,true,false,false,false,false,false] rfl rfl s2_ (fun _ _ _ h => h) (Or.inl ⟨by rfl, ?_⟩) hHeld ?_ ?_
 rotate_left
 { rintro w' ⟨⟨s0, s1⟩, s2, s3⟩; go_simp; with_reducible rfl }
 rotate_left
 · exact p1_
 refine take_ (i := 2) (N := some 26) (v := ?_) (a' := ?_) #[true,true,true,false,false,false,false] rfl rfl s2_ (fun _ _ _ h => h) (Or.inl ⟨by rfl, ?_⟩) hHeld ?_ ?_
 rotate_left
 { rintro w' ⟨⟨s0, s1⟩, s2, s3⟩; go_simp; with_reducible rfl }
 rotate_left
 · exact p1_
 refine one_ (i := 3) (N := none) #[true,true,true,true,false,false,false] rfl rfl s2_ (by decide) (fun K hK => ?_)
 obtain ⟨ce0, ce1, fe0, fe1⟩ := P.c2 3 rfl
 have P2 := P.set2 (x := .int .i64 lim) (y := .slice (some ⟨g, 0, none⟩) xs.length d) 3 rfl (P.base 3 rfl)
 refine skip_ (w1 := ?_) (by rfl) rfl ?_ ?_; rotate_left; { go_simp; rfl }
 clear P; revert P2; generalize World.setCell _ _ _ = w1; intro P
 (try simp only [List.nil_append, List.cons_append, List.set_cons_zero, List.set_cons_succ] at P)
 refine hK.out _ _ ⟨P.held2 12 rfl, (P.c1 5 rfl).1, (P.c1 6 rfl).1⟩ (fun hHeld => ?_)
 clear hK K
 refine pure_ (i := 4) (N := some 7) (v := ?_) (a' := ?_) #[true,true,true,true,true,false,false] rfl rfl s2_ (fun _ _ _ h => h) (Or.inl ⟨by rfl, ?_⟩) ?_ ?_
 rotate_left
 { intro w'; go_simp; with_reducible rfl }
 rotate_left
 · exact p1_
 refine pure_ (i := 5) (N := some 8) (v := ?_) (a' := ?_) #[true,true,true,true,true,true,false] rfl rfl s2_ (fun _ _ _ h => h) (Or.inl ⟨by rfl, ?_⟩) ?_ ?_
 rotate_left
 { intro w'; go_simp; with_reducible rfl }
 rotate_left
 · exact p1_
 refine pure_ (i := 6) (N := some 9) (v := ?_) (a' := ?_) #[true,true,true,true,true,true,true] rfl rfl s2_ (fun _ _ _ h => h) (Or.inl ⟨by rfl, ?_⟩) ?_ ?_
 rotate_left
 { intro w'; go_simp; with_reducible rfl }
 rotate_left
 · exact p1_
 refine done_ s2_ ?_
 try go_wp2_with (fail)
 refine bodyPost_ret (results_list (rs := [.cell 6 54, .tmp 7, .tmp 8, .tmp 9]) rfl (by simp) (.cell g6 54 #[.int .i64 lim, .slice (some ⟨g, 0, none⟩) xs.length d] (0, 0) _ rfl (P.cell 3 rfl) Try.underlying54 rfl s2_ (.tmp (.tmp (.tmp .nil))))) rfl ?_
 obtain ⟨hn9, hd9, hC9⟩ := rS_at P 9 rfl
 have P2 := P.pick [9, 11] [rS w.heap.size (some ⟨g, 0, none⟩) xs.length d (xs.set i ⟨x.f0, x.f1, 0, x.f3.drop m⟩), rrow k97 97 w.heap.size (.slice E tk.length f) tk] (by decide) rfl
 rw [hn9] at P2 ⊢
 exact ⟨_, _, _, _, rfl, P2⟩

end Go.Proofs.Ytdanachjdfiegaa.QFnTaken
