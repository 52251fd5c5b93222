-- by hand, over one pool
import Derived.Test.YtgfilednbllkmaaQFnLeasesx0
import Derived.Test.YtgfilednbllkmaaQFnLeasesx4
import Derived.Test.YtgfilednbllkmaaQFnJoinedPresencex11
namespace Go.Proofs.Ytgfilednbllkmaa.QFnJoinedPresence
open Go.RowKit Go.Proofs.YtgfilednbllkmaaW.PrintWords Go.Proofs.YtgfilednbllkmaaW.PrintLast Go.Proofs.YtgfilednbllkmaaW.PrintMore
attribute [local go_sem] max2_int min2_int max_two min_two max_three min_three max_four min_four   -- for this text's walks alone
set_option linter.unusedVariables false
set_option linter.unusedSimpArgs false
/-- One end of a lease, against the first so far. -/
def nx (now y b : Int) : Int := if y > now then (if b < 0 then y else if y < b then y else b) else b
/-- The first end behind a tick. -/
def bestV (now : Int) : List S63 → Int → Int
  | [], b => b
  | x :: r, b => bestV now r (nx now x.f1 b)
theorem bestV_step (now : Int) (x : List S63) (i b : Int) (h0 : 0 ≤ i) (h1 : i < (x.length : Int)) : bestV now (x.drop i.toNat) b = bestV now (x.drop (i + 1).toNat) (nx now (rd_T63 x i).f1 b) := by
  obtain ⟨n, rfl⟩ := Int.eq_ofNat_of_zero_le h0
  have hn : n < x.length := by omega
  have e1 : ((n : Int) + 1).toNat = n + 1 := by omega
  have e2 : rd_T63 x (n : Int) = x[n] := by simp [rd_T63, List.getD, hn]
  rw [Int.toNat_natCast, e1, e2, List.drop_eq_getElem_cons hn, bestV]
section
variable {w0 w w1 : World} {L : List Res} {A0 A1 A2 : Option Addr} {n0 n1 n2 c0 c1 c2 g : Nat} {a b : List S63} {c : List S73}
theorem newrowL {v : Value} {r : List S63} (P : Pool w0 w L) (hb : Below w.heap.size w w1) (g : Kd.R k63 63 w1 w.heap.size (fun _ => True) v r) : ∃ D e0, v = .slice D r.length e0 ∧ Pool w0 w1 (L ++ [rrow k63 63 w0.heap.size (.slice D r.length e0) r]) := by
  obtain ⟨D, e0, rfl⟩ := Kd.R_slice g
  exact ⟨D, e0, rfl, P.add hb _ (Kd.R_lower (Kd.R_mono (Kd.R_bound (Kd.R_tight rfl g)) (fun k hk => ⟨⟨hk.2.1, hk.2.2.1⟩, hk.1⟩)) (below_size P.1))⟩
theorem typistsW (k : Nat) (ty : List S63) (P : Pool w0 w L) (i : Nat) (hi : L[i]? = some (rbox g #[.slice A0 a.length c0, .slice A1 b.length c1, .slice A2 c.length c2] 27)) (hr0 : Kd.C k63 w0 A0 a.length a) (hc0 : a.length ≤ c0) (hr1 : Kd.C k63 w0 A1 b.length b) (hc1 : b.length ≤ c1) (hr2 : Kd.C k73 w0 A2 c.length c) (hc2 : c.length ≤ c2) (h : impl_Presence_typists.f k a b c = some ty) :
    Calls Try.prog 50 #[.pointer (some ⟨g, 0, none⟩)] w fun e w' => ∃ D e0, e = .returned (.slice D ty.length e0) ∧ Pool w0 w' (L ++ [rrow k63 63 w0.heap.size (.slice D ty.length e0) ty]) := by
  refine (impl_Presence_typists.calls k g _ _ a _ _ b _ _ c ty w (P.cell i hi) (Kd.C_below hr0 P.1) hc0 (Kd.C_below hr1 P.1) hc1 (Kd.C_below hr2 P.1) hc2 h).mono ?_
  rintro e w' ⟨v, rfl, g, hb⟩
  obtain ⟨D, e0, rfl, hP⟩ := newrowL P hb g
  exact ⟨D, e0, rfl, hP⟩
theorem concatW (x : List S63) (hx : x = a ++ b) (P : Pool w0 w L) (i j : Nat) (hi : L[i]? = some (rbox g #[.slice A0 a.length c0, .slice A1 b.length c1] 24)) (hr0 : Kd.C k63 w0 A0 a.length a) (hc0 : a.length ≤ c0) (hj : L[j]? = some (rrow k63 63 w0.heap.size (.slice A1 b.length c1) b)) (la : a.length ≤ 100) (lb : b.length ≤ 100) :
    Calls Try.prog 56 #[.slice (some ⟨g, 0, none⟩) 2 2] w fun e w' => ∃ D e0, e = .returned (.slice D x.length e0) ∧ Pool w0 w' (L ++ [rrow k63 63 w0.heap.size (.slice D x.length e0) x]) := by
  subst hx
  obtain ⟨-, g1, q1⟩ := P.reads j hj
  refine (impl_Concat.calls g _ _ a _ _ b w (P.cell i hi) (Kd.C_below hr0 P.1) hc0 q1 g1 la lb).mono ?_
  rintro e w' ⟨v, rfl, g, hb⟩
  obtain ⟨D, e0, rfl, hP⟩ := newrowL P hb g
  exact ⟨D, e0, rfl, hP⟩
end
set_option maxHeartbeats 40000000 in
set_option maxRecDepth 100000 in
theorem impl_NextChange.calls (k : Nat) (A0_0 : Option Addr) (c0_0 : Nat) (l0_0 : List (S63)) (A0_1 : Option Addr) (c0_1 : Nat) (l0_1 : List (S63)) (A0_2 : Option Addr) (c0_2 : Nat) (l0_2 : List (S73)) (now : Int) (ty : List S63) (w : World) (hr0_0 : Kd.C k63 w A0_0 l0_0.length l0_0) (hc0_0 : l0_0.length ≤ c0_0) (hr0_1 : Kd.C k63 w A0_1 l0_1.length l0_1) (hc0_1 : l0_1.length ≤ c0_1) (hr0_2 : Kd.C k73 w A0_2 l0_2.length l0_2) (hc0_2 : l0_2.length ≤ c0_2) (hv : impl_ValidPresence.f k l0_0 l0_1 l0_2 = some true) (ht : impl_isTick.f now = some true) (hT : impl_Presence_typists.f k l0_0 l0_1 l0_2 = some ty) (la : l0_0.length ≤ 100) (lb : ty.length ≤ 100) (r : Int) (hr : bestV now (l0_0 ++ ty) (-1) = r) :
    Calls Try.prog 21 #[.agg #[.slice A0_0 l0_0.length c0_0, .slice A0_1 l0_1.length c0_1, .slice A0_2 l0_2.length c0_2], .int .i64 now] w fun e w' => e = .returned (.tuple #[.int .i64 (if r < 0 then 0 else r), .bool (decide (¬ r < 0))]) ∧ Below w.heap.size w w' := by
 have hu24 := Try.underlying24
 have hu27 := Try.underlying27
 have hu63 := Try.underlying63
 have hu73 := Try.underlying73
 have hu105 := Try.underlying105
 have P := Pool.nil w
 obtain ⟨x, hx⟩ : ∃ x, x = l0_0 ++ ty := ⟨_, rfl⟩
 rw [← hx] at hr
 have hl : (x.length : Int) ≤ 200 := by rw [hx, List.length_append]; omega
 have HX := Aside0.mk hx
 clear hx
 go_enter Try.func21, Try.ntmps21
 try go_wp2_with (first | ((with_reducible refine gate_dst (N := 2) rfl ?_); (try (refine gate_guard (by rfl) ?_; dsimp only)); refine bx_ 2 #[.slice A0_0 l0_0.length c0_0, .slice A0_1 l0_1.length c0_1, .slice A0_2 l0_2.length c0_2] 27 ?_; intro g2 hg w1 hbox hb; replace P := P.box hg hbox hb; clear hb hbox hg; (try simp only [List.nil_append, List.cons_append, List.set_cons_zero, List.set_cons_succ] at P); obtain ⟨ce0, ce1, ce2, fe0, fe1, fe2⟩ := P.c3 0 rfl) | ((with_reducible refine gate_callee (f := 19) rfl ?_); refine goesL_ (some 10) rfl rfl Try.func19 s2_ rfl #[.agg #[.slice A0_0 l0_0.length c0_0, .slice A0_1 l0_1.length c0_1, .slice A0_2 l0_2.length c0_2]] rfl s3_ ?_; refine (validW k true P hr0_0 hc0_0 hr0_1 hc0_1 hr0_2 hc0_2 hv).mono ?_; clear P; rintro e w1 ⟨rfl, P⟩; refine ⟨_, rfl, ?_⟩; (try simp only [List.nil_append, List.cons_append, List.set_cons_zero, List.set_cons_succ] at P); obtain ⟨ce0, ce1, ce2, fe0, fe1, fe2⟩ := P.c3 0 rfl))
 try go_wp2_with (fail)
 refine (tickW now true P ht).mono ?_
 clear P
 rintro e w1 ⟨rfl, P⟩
 try go_wp2_with (fail)
 replace P := P.drew
 refine start_ (n := 7) (S := fun w' => C3 w' g2 (.slice A0_0 l0_0.length c0_0) (.slice A0_1 l0_1.length c0_1) (.slice A0_2 l0_2.length c0_2)) (ds := []) #[false,false,false,false,false,false,false] s2_ rfl rfl (P.held3 0 rfl) (fun hHeld => ?_)
 generalize World.drew _ = w1 at P hHeld ⊢
 refine pure_ (i := 0) (N := some 17) (v := ?_) (a' := ?_) #[true,false,false,false,false,false,false] rfl rfl s2_ (fun _ _ _ h => h) (Or.inl ⟨by rfl, ?_⟩) ?_ ?_
 rotate_left
 { intro w'; go_simp; with_reducible rfl }
 rotate_left
 · exact p1_
 refine take_ (i := 1) (N := some 18) (v := ?_) (a' := ?_) #[true,true,false,false,false,false,false] rfl rfl s2_ (fun _ _ _ h => h) (Or.inl ⟨by rfl, ?_⟩) hHeld ?_ ?_
 rotate_left
 { rintro w' ⟨s0, s1, s2⟩; go_simp; with_reducible rfl }
 rotate_left
 · exact p1_
 refine pure_ (i := 6) (N := some 23) (v := ?_) (a' := ?_) #[true,true,false,false,false,false,true] rfl rfl s2_ (fun _ _ _ h => h) (Or.inl ⟨by rfl, ?_⟩) ?_ ?_
 rotate_left
 { intro w'; go_simp; with_reducible rfl }
 rotate_left
 · exact p1_
 refine one_ (i := 2) (N := some 19) #[true,true,true,false,false,false,true] rfl rfl s2_ (by decide) (fun K hK => ?_)
 refine goes_ Try.func50 s2_ rfl #[.pointer (some ⟨g2, 0, none⟩)] (by rfl) rfl rfl s3_ ?_
 refine (typistsW k ty P 0 rfl hr0_0 hc0_0 hr0_1 hc0_1 hr0_2 hc0_2 hT).mono ?_
 clear P
 rintro e_ w1 ⟨T, tc, rfl, P⟩
 (try simp only [List.nil_append, List.cons_append, List.set_cons_zero, List.set_cons_succ] at P)
 refine ⟨_, rfl, ?_⟩
 refine hK.out _ _ (P.held3 0 rfl) (fun hHeld => ?_)
 clear hK K
 refine norm_ (a' := ?_) ?_ ?_; rotate_left; { show Act.put _ (some 19) _ = _; simp only [Act.put, List.setIfInBounds_toArray, List.set_cons_zero, List.set_cons_succ, i64_w, i32_w]; rfl }
 refine one_ (i := 3) (N := some 20) #[true,true,true,true,false,false,true] rfl rfl s2_ (by decide) (fun K hK => ?_)
 refine value_ (v := .slice (some ⟨w1.heap.size, 0, none⟩) 2 2) (w1 := w1.alloc (.cells #[.slice A0_0 l0_0.length c0_0, .slice T ty.length tc] 24)) s2_ rfl (by first | (go_simp; done) | (go_simp; rfl)) ?_
 have P2 := P.box (g := w1.heap.size) (cs := #[.slice A0_0 l0_0.length c0_0, .slice T ty.length tc]) (t := 24) rfl (heap_alloc_new w1 _) (below_alloc (Below.refl _ _) _)
 clear P; have P := P2; clear P2; (try simp only [List.nil_append, List.cons_append, List.set_cons_zero, List.set_cons_succ] at P)
 generalize w1.heap.size = gb at P ⊢; generalize World.alloc _ _ = w1 at P ⊢
 refine hK.out _ _ (P.held3 0 rfl) (fun hHeld => ?_)
 clear hK K
 refine norm_ (a' := ?_) ?_ ?_; rotate_left; { show Act.put _ (some 20) _ = _; simp only [Act.put, List.setIfInBounds_toArray, List.set_cons_zero, List.set_cons_succ, i64_w, i32_w]; rfl }
 refine one_ (i := 4) (N := some 21) #[true,true,true,true,true,false,true] rfl rfl s2_ (by decide) (fun K hK => ?_)
 refine goes_ Try.func56 s2_ rfl #[.slice (some ⟨gb, 0, none⟩) 2 2] (by rfl) rfl rfl s3_ ?_
 refine (concatW x HX.out P 2 1 rfl hr0_0 hc0_0 rfl la lb).mono ?_
 clear P
 rintro e_ w1 ⟨D, dc, rfl, P⟩
 (try simp only [List.nil_append, List.cons_append, List.set_cons_zero, List.set_cons_succ] at P)
 refine ⟨_, rfl, ?_⟩
 refine hK.out _ _ (P.held3 0 rfl) (fun hHeld => ?_)
 clear hK K
 refine norm_ (a' := ?_) ?_ ?_; rotate_left; { show Act.put _ (some 21) _ = _; simp only [Act.put, List.setIfInBounds_toArray, List.set_cons_zero, List.set_cons_succ, i64_w, i32_w]; rfl }
 refine pure_ (i := 5) (N := some 22) (v := ?_) (a' := ?_) #[true,true,true,true,true,true,true] rfl rfl s2_ (fun _ _ _ h => h) (Or.inl ⟨by rfl, ?_⟩) ?_ ?_
 rotate_left
 { intro w'; go_simp; with_reducible rfl }
 rotate_left
 · exact p1_
 refine done_ s2_ ?_
 try go_wp2_with (fail)
 go_loopg [6, 23] 300 (fun kq v6 v23 w' => ∃ (q i : Int), v6 = .int .i64 q ∧ v23 = .int .i64 i ∧ Aside0 (0 ≤ i ∧ i ≤ (x.length : Int) ∧ bestV now (x.drop i.toNat) q = r ∧ (kq : Int) + i = 300) ∧ Pool w w' [rbox g2 #[.slice A0_0 l0_0.length c0_0, .slice A0_1 l0_1.length c0_1, .slice A0_2 l0_2.length c0_2] 27, rrow k63 63 w.heap.size (.slice T ty.length tc) ty, rbox gb #[.slice A0_0 l0_0.length c0_0, .slice T ty.length tc] 24, rrow k63 63 w.heap.size (.slice D x.length dc) x])
 case atStart => exact ⟨-1, 0, rfl, rfl, ⟨by omega, by omega, hr, by omega⟩, P⟩
 case round =>
 clear P
 obtain ⟨q, i, rfl, rfl, HI, P⟩ := hrel
 cases gk with
 | zero => exact absurd HI.out (by omega)
 | succ k1 =>
 by_cases c1 : i < (x.length : Int)
 {
 have c2 : 0 ≤ i := HI.out.1
 have hs := bestV_step now x i q c2 c1
 have hw : wrap64 (i + 1) = i + 1 := by unfold wrap64; omega
 obtain ⟨-, hdc, hxr⟩ := P.reads 3 rfl
 obtain ⟨ad, ead, hx0, hx1⟩ := at_T63 hxr i c2 c1
 cases ead
 have hxr2 := A_ hxr; clear hxr
 generalize (rd_T63 x i).f0 = y0 at hx0
 generalize (rd_T63 x i).f1 = y1 at hx1 hs
 rw [← hw] at hs
 have HR := Aside0.mk (hs.symm.trans HI.out.2.2.1)
 clear hs
 have p1 := decide_eq_true c1
 have p2 := decide_eq_true c2
 replace c1 := eq_true c1
 replace c2 := eq_true c2
 by_cases d1 : y1 > now
 {
 have e1 := decide_eq_true d1
 by_cases d2 : q < 0
 {
 have e2 := decide_eq_true d2
 go_wp2_with (first | ((with_reducible refine gate_dst (N := 8) rfl ?_); (try (refine gate_guard (by rfl) ?_; dsimp only)); refine bx_ 8 #[.int .i64 0, .int .i64 0] 63 ?_; intro g8 hg w1 hbox hb; replace P := P.box hg hbox hb; clear hb hbox hg; (try simp only [List.nil_append, List.cons_append, List.set_cons_zero, List.set_cons_succ] at P); obtain ⟨ce0, ce1, fe0, fe1⟩ := P.c2 4 rfl) | ((with_reducible refine gate_store (p := 8) rfl ?_); refine st2 P 4 rfl rfl rfl rfl (by go_simp; rfl) ?_; clear P; intro w1 P; (try simp only [List.nil_append, List.cons_append, List.set_cons_zero, List.set_cons_succ] at P); obtain ⟨ce0, ce1, fe0, fe1⟩ := P.c2 4 rfl))
 go_roundg k1
 case measure => have := HI.out; omega
 case rel => exact ⟨y1, wrap64 (i + 1), rfl, s1_, ⟨by have := HI.out; omega, by have := HI.out; have := of_decide_eq_true p1; omega, (by have h := HR.out; unfold nx at h; rw [if_pos (by omega), if_pos (by omega)] at h; exact h), by have := HI.out; omega⟩, P.pick [0, 1, 2, 3] _ (by decide) rfl⟩
 }
 {
 have e2 := decide_eq_false d2
 by_cases d3 : y1 < q
 {
 have e3 := decide_eq_true d3
 go_wp2_with (first | ((with_reducible refine gate_dst (N := 8) rfl ?_); (try (refine gate_guard (by rfl) ?_; dsimp only)); refine bx_ 8 #[.int .i64 0, .int .i64 0] 63 ?_; intro g8 hg w1 hbox hb; replace P := P.box hg hbox hb; clear hb hbox hg; (try simp only [List.nil_append, List.cons_append, List.set_cons_zero, List.set_cons_succ] at P); obtain ⟨ce0, ce1, fe0, fe1⟩ := P.c2 4 rfl) | ((with_reducible refine gate_store (p := 8) rfl ?_); refine st2 P 4 rfl rfl rfl rfl (by go_simp; rfl) ?_; clear P; intro w1 P; (try simp only [List.nil_append, List.cons_append, List.set_cons_zero, List.set_cons_succ] at P); obtain ⟨ce0, ce1, fe0, fe1⟩ := P.c2 4 rfl))
 go_roundg k1
 case measure => have := HI.out; omega
 case rel => exact ⟨y1, wrap64 (i + 1), rfl, s1_, ⟨by have := HI.out; omega, by have := HI.out; have := of_decide_eq_true p1; omega, (by have h := HR.out; unfold nx at h; rw [if_pos (by omega), if_neg (by omega), if_pos (by omega)] at h; exact h), by have := HI.out; omega⟩, P.pick [0, 1, 2, 3] _ (by decide) rfl⟩
 }
 {
 have e3 := decide_eq_false d3
 go_wp2_with (first | ((with_reducible refine gate_dst (N := 8) rfl ?_); (try (refine gate_guard (by rfl) ?_; dsimp only)); refine bx_ 8 #[.int .i64 0, .int .i64 0] 63 ?_; intro g8 hg w1 hbox hb; replace P := P.box hg hbox hb; clear hb hbox hg; (try simp only [List.nil_append, List.cons_append, List.set_cons_zero, List.set_cons_succ] at P); obtain ⟨ce0, ce1, fe0, fe1⟩ := P.c2 4 rfl) | ((with_reducible refine gate_store (p := 8) rfl ?_); refine st2 P 4 rfl rfl rfl rfl (by go_simp; rfl) ?_; clear P; intro w1 P; (try simp only [List.nil_append, List.cons_append, List.set_cons_zero, List.set_cons_succ] at P); obtain ⟨ce0, ce1, fe0, fe1⟩ := P.c2 4 rfl))
 go_roundg k1
 case measure => have := HI.out; omega
 case rel => exact ⟨q, wrap64 (i + 1), rfl, s1_, ⟨by have := HI.out; omega, by have := HI.out; have := of_decide_eq_true p1; omega, (by have h := HR.out; unfold nx at h; rw [if_pos (by omega), if_neg (by omega), if_neg (by omega)] at h; exact h), by have := HI.out; omega⟩, P.pick [0, 1, 2, 3] _ (by decide) rfl⟩
 }
 }
 }
 {
 have e1 := decide_eq_false d1
 go_wp2_with (first | ((with_reducible refine gate_dst (N := 8) rfl ?_); (try (refine gate_guard (by rfl) ?_; dsimp only)); refine bx_ 8 #[.int .i64 0, .int .i64 0] 63 ?_; intro g8 hg w1 hbox hb; replace P := P.box hg hbox hb; clear hb hbox hg; (try simp only [List.nil_append, List.cons_append, List.set_cons_zero, List.set_cons_succ] at P); obtain ⟨ce0, ce1, fe0, fe1⟩ := P.c2 4 rfl) | ((with_reducible refine gate_store (p := 8) rfl ?_); refine st2 P 4 rfl rfl rfl rfl (by go_simp; rfl) ?_; clear P; intro w1 P; (try simp only [List.nil_append, List.cons_append, List.set_cons_zero, List.set_cons_succ] at P); obtain ⟨ce0, ce1, fe0, fe1⟩ := P.c2 4 rfl))
 go_roundg k1
 case measure => have := HI.out; omega
 case rel => exact ⟨q, wrap64 (i + 1), rfl, s1_, ⟨by have := HI.out; omega, by have := HI.out; have := of_decide_eq_true p1; omega, (by have h := HR.out; unfold nx at h; rw [if_neg (by omega)] at h; exact h), by have := HI.out; omega⟩, P.pick [0, 1, 2, 3] _ (by decide) rfl⟩
 }
 }
 {
 have hi : i = (x.length : Int) := by have := HI.out; omega
 obtain rfl : q = r := by have h := HI.out.2.2.1; rw [hi, Int.toNat_natCast, List.drop_length, bestV] at h; exact h
 have p1 := decide_eq_false c1
 clear c1
 by_cases d1 : q < 0
 {
 have e1 := decide_eq_true d1
 go_wp2_with (fail)
 go_ret2
 exact ⟨by simp [d1], P.1⟩
 }
 {
 have e1 := decide_eq_false d1
 go_wp2_with (fail)
 go_ret2
 exact ⟨by simp [d1], P.1⟩
 }
 }

end Go.Proofs.Ytgfilednbllkmaa.QFnJoinedPresence
