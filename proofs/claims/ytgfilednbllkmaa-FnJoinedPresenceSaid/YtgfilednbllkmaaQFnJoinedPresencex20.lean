-- by hand, over one pool
import Derived.Test.YtgfilednbllkmaaQFnJoinedPresencex3
import Derived.Test.YtgfilednbllkmaaQFnJoinedPresencex9
import Derived.Test.YtgfilednbllkmaaQFnJoinedPresencex10
import Derived.Test.YtgfilednbllkmaaQFnJoinedPresencex11
import Derived.Test.YtgfilednbllkmaaQFnJoinedPresencex12
import Derived.Test.YtgfilednbllkmaaQFnJoinedPresencex15
import Derived.Test.YtgfilednbllkmaaQFnJoinedPresencex16
import Derived.Test.YtgfilednbllkmaaQFnJoinedPresencex17
import Derived.Test.YtgfilednbllkmaaQFnJoinedPresencex19
namespace Go.Proofs.Ytgfilednbllkmaa.QFnJoinedPresence
open Go.RowKit Go.Proofs.YtgfilednbllkmaaW.PrintWords Go.Proofs.YtgfilednbllkmaaW.PrintLast Go.Proofs.YtgfilednbllkmaaW.PrintMore
attribute [local go_sem] max2_int min2_int max_two min_two max_three min_three max_four min_four   -- for this text's walks alone
set_option linter.unusedVariables false
set_option linter.unusedSimpArgs false
/-- What is told of one moment. -/
def laws_FnJoinedPresence.At (k : Nat) (a0 a1 : List S63) (a2 : List S73) (b0 b1 : List S63) (b2 : List S73) (o0 o1 : List S63) (o2 : List S73) (s0 s1 : List S63) (s2 : List S73) (t : Int) : Prop :=
  ∃ x y z u v w m, impl_PresentAt.f k a0 a1 a2 t = some (x, true) ∧ impl_PresentAt.f k b0 b1 b2 t = some (y, true) ∧ impl_PresentAt.f k o0 o1 o2 t = some (z, true) ∧ impl_PresentAt.f k s0 s1 s2 t = some (u, true) ∧ impl_TypingAt.f k a0 a1 a2 t = some (v, true) ∧ impl_TypingAt.f k s0 s1 s2 t = some (w, true) ∧ spec_JoinSets.f k x y = some (m, true) ∧ laws_b10Nums.f k m z = some true ∧ laws_b10Nums.f k x u = some true ∧ laws_b10Nums.f k v w = some true
/-- All that the law calls answers, where it ends well. -/
def laws_FnJoinedPresence.Main (k : Nat) (l0 l1 : List Int) : Prop :=
  ∃ a0 a1 a2 b0 b1 b2 now o0 o1 o2 t0 t1 t2 q0 q1 q2 s0 s1 s2, spec_B10Presence.f k l0 = some (a0, a1, a2) ∧ spec_B10Presence.f k l1 = some (b0, b1, b2) ∧ laws_b10At.f l1 0 24 = some now ∧ impl_JoinPresence.f k a0 a1 a2 b0 b1 b2 = some (o0, o1, o2, true) ∧ impl_JoinPresence.f k b0 b1 b2 a0 a1 a2 = some (t0, t1, t2, true) ∧ impl_JoinPresence.f k a0 a1 a2 a0 a1 a2 = some (q0, q1, q2, true) ∧ impl_SweepPresence.f k a0 a1 a2 now = some (s0, s1, s2, true) ∧ impl_SamePresence.f k o0 o1 o2 t0 t1 t2 = some true ∧ impl_SamePresence.f k q0 q1 q2 a0 a1 a2 = some true ∧ impl_ValidPresence.f k s0 s1 s2 = some true ∧ 0 ≤ now ∧ now < 24 ∧ ∀ t : Int, now ≤ t → t < now + 12 → laws_FnJoinedPresence.At k a0 a1 a2 b0 b1 b2 o0 o1 o2 s0 s1 s2 t
def laws_FnJoinedPresence.Ans (k : Nat) (l0 l1 : List Int) : Prop := laws_b10Long.f l0 l1 = some true ∨ laws_b10Long.f l0 l1 = some false ∧ laws_FnJoinedPresence.Main k l0 l1
section
variable {w0 w w1 : World} {L : List Res} {A0 A1 A2 B0 B1 B2 : Option Addr} {n0 n1 n2 c0 c1 c2 m0 m1 m2 d0 d1 d2 : Nat} {a : List S63} {b : List S63} {c : List S73} {x y : List S63} {z : List S73}
theorem longW (l0 l1 : List Int) (r : Bool) (P : Pool w0 w L) (hr0 : Kd.C (Kd.int .u8) w0 A0 l0.length l0) (hc0 : l0.length ≤ c0) (hr1 : Kd.C (Kd.int .u8) w0 A1 l1.length l1) (hc1 : l1.length ≤ c1) (h : laws_b10Long.f l0 l1 = some r) :
    Calls Try.prog 11 #[.slice A0 l0.length c0, .slice A1 l1.length c1] w fun e w' => e = .returned (.bool r) ∧ Pool w0 w' L := by
  refine (laws_b10Long.calls _ _ l0 _ _ l1 r w (Kd.C_below hr0 P.1) hc0 (Kd.C_below hr1 P.1) hc1 h).mono ?_
  rintro e w' ⟨rfl, hb⟩
  exact ⟨rfl, P.below hb.below⟩
theorem atW (l0 : List Int) (p q r : Int) (P : Pool w0 w L) (hr0 : Kd.C (Kd.int .u8) w0 A0 l0.length l0) (hc0 : l0.length ≤ c0) (h : laws_b10At.f l0 p q = some r) :
    Calls Try.prog 13 #[.slice A0 l0.length c0, .int .i64 p, .int .i64 q] w fun e w' => e = .returned (.int .i64 r) ∧ Pool w0 w' L := by
  refine (laws_b10At.calls _ _ l0 p q r w (Kd.C_below hr0 P.1) hc0 h).mono ?_
  rintro e w' ⟨rfl, hb⟩
  exact ⟨rfl, P.below hb.below⟩
theorem presW (k : Nat) (l0 : List Int) (a b : List S63) (c : List S73) (P : Pool w0 w L) (hr0 : Kd.C (Kd.int .u8) w0 A0 l0.length l0) (hc0 : l0.length ≤ c0) (h : spec_B10Presence.f k l0 = some (a, b, c)) :
    Calls Try.prog 12 #[.slice A0 l0.length c0] w fun e w' => ∃ D0 e0 D1 e1 D2 e2, e = .returned (.agg #[.slice D0 a.length e0, .slice D1 b.length e1, .slice D2 c.length e2]) ∧ Pool w0 w' (L ++ [rp w0.heap.size D0 a.length e0 a D1 b.length e1 b D2 c.length e2 c]) := by
  refine (spec_B10Presence.calls k _ _ l0 a b c w (Kd.C_below hr0 P.1) hc0 h).mono ?_
  rintro e w' ⟨v0, v1, v2, rfl, g0, g1, g2, hb⟩
  obtain ⟨D0, e0, D1, e1, D2, e2, rfl, rfl, rfl, hP⟩ := rp_new P hb g0 g1 g2 (fun _ hk => hk)
  exact ⟨D0, e0, D1, e1, D2, e2, rfl, hP⟩
theorem joinR (k : Nat) (r1 r2 : List S63) (r3 : List S73) (r4 : Bool) (P : Pool w0 w L) (i j : Nat) (hi : L[i]? = some (rp w0.heap.size A0 n0 c0 a A1 n1 c1 b A2 n2 c2 c)) (hj : L[j]? = some (rp w0.heap.size B0 m0 d0 x B1 m1 d1 y B2 m2 d2 z)) (h : impl_JoinPresence.f k a b c x y z = some (r1, r2, r3, r4)) :
    Calls Try.prog 37 #[.agg #[.slice A0 n0 c0, .slice A1 n1 c1, .slice A2 n2 c2], .agg #[.slice B0 m0 d0, .slice B1 m1 d1, .slice B2 m2 d2]] w fun e w' => ∃ D0 e0 D1 e1 D2 e2, e = .returned (.tuple #[.agg #[.slice D0 r1.length e0, .slice D1 r2.length e1, .slice D2 r3.length e2], .bool r4]) ∧ Pool w0 w' (L ++ [rp w0.heap.size D0 r1.length e0 r1 D1 r2.length e1 r2 D2 r3.length e2 r3]) := by
  obtain ⟨rfl, rfl, rfl⟩ := rp_at P i hi
  obtain ⟨rfl, rfl, rfl⟩ := rp_at P j hj
  have h1 := rp_c P i hi
  have h2 := rp_c P j hj
  refine (impl_JoinPresence.pool k _ _ a _ _ b _ _ c _ _ x _ _ y _ _ z r1 r2 r3 r4 w h1.1 h1.2.1 h1.2.2.1 h1.2.2.2.1 h1.2.2.2.2.1 h1.2.2.2.2.2 h2.1 h2.2.1 h2.2.2.1 h2.2.2.2.1 h2.2.2.2.2.1 h2.2.2.2.2.2 h).mono ?_
  rintro e w' ⟨D0, e0, D1, e1, D2, e2, rfl, Q⟩
  exact ⟨D0, e0, D1, e1, D2, e2, rfl, P.lift3 Q⟩
theorem sweepR (k : Nat) (r1 r2 : List S63) (r3 : List S73) (r4 : Bool) (now : Int) (P : Pool w0 w L) (i : Nat) (hi : L[i]? = some (rp w0.heap.size A0 n0 c0 a A1 n1 c1 b A2 n2 c2 c)) (h : impl_SweepPresence.f k a b c now = some (r1, r2, r3, r4)) :
    Calls Try.prog 31 #[.agg #[.slice A0 n0 c0, .slice A1 n1 c1, .slice A2 n2 c2], .int .i64 now] w fun e w' => ∃ D0 e0 D1 e1 D2 e2, e = .returned (.tuple #[.agg #[.slice D0 r1.length e0, .slice D1 r2.length e1, .slice D2 r3.length e2], .bool r4]) ∧ Pool w0 w' (L ++ [rp w0.heap.size D0 r1.length e0 r1 D1 r2.length e1 r2 D2 r3.length e2 r3]) := by
  obtain ⟨rfl, rfl, rfl⟩ := rp_at P i hi
  have h1 := rp_c P i hi
  refine (impl_SweepPresence.pool k _ _ a _ _ b _ _ c now r1 r2 r3 r4 w h1.1 h1.2.1 h1.2.2.1 h1.2.2.2.1 h1.2.2.2.2.1 h1.2.2.2.2.2 h).mono ?_
  rintro e w' ⟨D0, e0, D1, e1, D2, e2, rfl, Q⟩
  exact ⟨D0, e0, D1, e1, D2, e2, rfl, P.lift3 Q⟩
theorem sameR (k : Nat) (r : Bool) (P : Pool w0 w L) (i j : Nat) (hi : L[i]? = some (rp w0.heap.size A0 n0 c0 a A1 n1 c1 b A2 n2 c2 c)) (hj : L[j]? = some (rp w0.heap.size B0 m0 d0 x B1 m1 d1 y B2 m2 d2 z)) (h : impl_SamePresence.f k a b c x y z = some r) :
    Calls Try.prog 38 #[.agg #[.slice A0 n0 c0, .slice A1 n1 c1, .slice A2 n2 c2], .agg #[.slice B0 m0 d0, .slice B1 m1 d1, .slice B2 m2 d2]] w fun e w' => e = .returned (.bool r) ∧ Pool w0 w' L := by
  obtain ⟨rfl, rfl, rfl⟩ := rp_at P i hi
  obtain ⟨rfl, rfl, rfl⟩ := rp_at P j hj
  have h1 := rp_c P i hi
  have h2 := rp_c P j hj
  refine (impl_SamePresence.calls k _ _ a _ _ b _ _ c _ _ x _ _ y _ _ z r w h1.1 h1.2.1 h1.2.2.1 h1.2.2.2.1 h1.2.2.2.2.1 h1.2.2.2.2.2 h2.1 h2.2.1 h2.2.2.1 h2.2.2.2.1 h2.2.2.2.2.1 h2.2.2.2.2.2 h).mono ?_
  rintro e w' ⟨rfl, hb⟩
  exact ⟨rfl, P.below hb⟩
theorem validP (k : Nat) (r : Bool) (P : Pool w0 w L) (i : Nat) (hi : L[i]? = some (rp w0.heap.size A0 n0 c0 a A1 n1 c1 b A2 n2 c2 c)) (h : impl_ValidPresence.f k a b c = some r) :
    Calls Try.prog 19 #[.agg #[.slice A0 n0 c0, .slice A1 n1 c1, .slice A2 n2 c2]] w fun e w' => e = .returned (.bool r) ∧ Pool w0 w' L := by
  obtain ⟨rfl, rfl, rfl⟩ := rp_at P i hi
  have h1 := rp_c P i hi
  refine (impl_ValidPresence.calls k _ _ a _ _ b _ _ c r w h1.1 h1.2.1 h1.2.2.1 h1.2.2.2.1 h1.2.2.2.2.1 h1.2.2.2.2.2 h).mono ?_
  rintro e w' ⟨rfl, hb⟩
  exact ⟨rfl, P.below hb⟩
theorem newrow {v : Value} {r : List Int} (P : Pool w0 w L) (hb : Below w.heap.size w w1) (g : Kd.R (Kd.int .i64) 2 w1 w.heap.size (fun _ => True) v r) : ∃ D e0, v = .slice D r.length e0 ∧ Pool w0 w1 (L ++ [rrow (Kd.int .i64) 2 w0.heap.size (.slice D r.length e0) r]) := by
  obtain ⟨D, e0, rfl⟩ := Kd.R_slice g
  exact ⟨D, e0, rfl, P.add hb _ (Kd.R_lower (Kd.R_mono (Kd.R_bound (Kd.R_tight rfl g)) (fun k hk => ⟨⟨hk.2.1, hk.2.2.1⟩, hk.1⟩)) (below_size P.1))⟩
theorem presentR (k : Nat) (r : List Int) (r4 : Bool) (now : Int) (P : Pool w0 w L) (i : Nat) (hi : L[i]? = some (rp w0.heap.size A0 n0 c0 a A1 n1 c1 b A2 n2 c2 c)) (h : impl_PresentAt.f k a b c now = some (r, r4)) :
    Calls Try.prog 15 #[.agg #[.slice A0 n0 c0, .slice A1 n1 c1, .slice A2 n2 c2], .int .i64 now] w fun e w' => ∃ D e0, e = .returned (.tuple #[.slice D r.length e0, .bool r4]) ∧ Pool w0 w' (L ++ [rrow (Kd.int .i64) 2 w0.heap.size (.slice D r.length e0) r]) := by
  obtain ⟨rfl, rfl, rfl⟩ := rp_at P i hi
  have h1 := rp_c P i hi
  refine (impl_PresentAt.calls k _ _ a _ _ b _ _ c now r r4 w h1.1 h1.2.1 h1.2.2.1 h1.2.2.2.1 h1.2.2.2.2.1 h1.2.2.2.2.2 h).mono ?_
  rintro e w' ⟨v, rfl, g, hb⟩
  obtain ⟨D, e0, rfl, hP⟩ := newrow P hb g
  exact ⟨D, e0, rfl, hP⟩
theorem typingR (k : Nat) (r : List Int) (r4 : Bool) (now : Int) (P : Pool w0 w L) (i : Nat) (hi : L[i]? = some (rp w0.heap.size A0 n0 c0 a A1 n1 c1 b A2 n2 c2 c)) (h : impl_TypingAt.f k a b c now = some (r, r4)) :
    Calls Try.prog 17 #[.agg #[.slice A0 n0 c0, .slice A1 n1 c1, .slice A2 n2 c2], .int .i64 now] w fun e w' => ∃ D e0, e = .returned (.tuple #[.slice D r.length e0, .bool r4]) ∧ Pool w0 w' (L ++ [rrow (Kd.int .i64) 2 w0.heap.size (.slice D r.length e0) r]) := by
  obtain ⟨rfl, rfl, rfl⟩ := rp_at P i hi
  have h1 := rp_c P i hi
  refine (impl_TypingAt.calls k _ _ a _ _ b _ _ c now r r4 w h1.1 h1.2.1 h1.2.2.1 h1.2.2.2.1 h1.2.2.2.2.1 h1.2.2.2.2.2 h).mono ?_
  rintro e w' ⟨v, rfl, g, hb⟩
  obtain ⟨D, e0, rfl, hP⟩ := newrow P hb g
  exact ⟨D, e0, rfl, hP⟩
theorem setsR (k : Nat) (x y r : List Int) (r4 : Bool) (P : Pool w0 w L) (i j : Nat) (hi : L[i]? = some (rrow (Kd.int .i64) 2 w0.heap.size (.slice A0 n0 c0) x)) (hj : L[j]? = some (rrow (Kd.int .i64) 2 w0.heap.size (.slice A1 n1 c1) y)) (h : spec_JoinSets.f k x y = some (r, r4)) :
    Calls Try.prog 39 #[.slice A0 n0 c0, .slice A1 n1 c1] w fun e w' => ∃ D e0, e = .returned (.tuple #[.slice D r.length e0, .bool r4]) ∧ Pool w0 w' (L ++ [rrow (Kd.int .i64) 2 w0.heap.size (.slice D r.length e0) r]) := by
  obtain ⟨rfl, g0, h0⟩ := P.reads i hi
  obtain ⟨rfl, g1, h1⟩ := P.reads j hj
  refine (spec_JoinSets.calls k _ _ x _ _ y r r4 w h0 g0 h1 g1 h).mono ?_
  rintro e w' ⟨v, rfl, g, hb⟩
  obtain ⟨D, e0, rfl, hP⟩ := newrow P hb g
  exact ⟨D, e0, rfl, hP⟩
theorem numsR (k : Nat) (x y : List Int) (r : Bool) (P : Pool w0 w L) (i j : Nat) (hi : L[i]? = some (rrow (Kd.int .i64) 2 w0.heap.size (.slice A0 n0 c0) x)) (hj : L[j]? = some (rrow (Kd.int .i64) 2 w0.heap.size (.slice A1 n1 c1) y)) (h : laws_b10Nums.f k x y = some r) :
    Calls Try.prog 23 #[.slice A0 n0 c0, .slice A1 n1 c1] w fun e w' => e = .returned (.bool r) ∧ Pool w0 w' L := by
  obtain ⟨rfl, g0, h0⟩ := P.reads i hi
  obtain ⟨rfl, g1, h1⟩ := P.reads j hj
  refine (laws_b10Nums.calls k _ _ x _ _ y r w h0 g0 h1 g1 h).mono ?_
  rintro e w' ⟨rfl, hb⟩
  exact ⟨rfl, P.below hb.below⟩
end
set_option maxHeartbeats 40000000 in
set_option maxRecDepth 100000 in
theorem laws_FnJoinedPresence.calls (k : Nat) (U0 : Option Addr) (u0 : Nat) (l0 : List Int) (U1 : Option Addr) (u1 : Nat) (l1 : List Int) (w : World) (hr0 : Kd.C (Kd.int .u8) w U0 l0.length l0) (hc0 : l0.length ≤ u0) (hr1 : Kd.C (Kd.int .u8) w U1 l1.length l1) (hc1 : l1.length ≤ u1) (H : laws_FnJoinedPresence.Ans k l0 l1) :
    Calls Try.prog 10 #[.slice U0 l0.length u0, .slice U1 l1.length u1] w fun e w' => e = .returned (.bool true) ∧ Below w.heap.size w w' := by
 have hu27 := Try.underlying27
 have hu63 := Try.underlying63
 have hu73 := Try.underlying73
 have P := Pool.nil w
 rcases H with hL | ⟨hL, H⟩
 {
 go_enter Try.func10, Try.ntmps10
 go_wp2_with (first | ((with_reducible refine gate_dst (N := 33) rfl ?_); (with_reducible refine gate_callee (f := 11) rfl ?_); refine goesL_ (some 33) rfl rfl Try.func11 s2_ rfl #[.slice U0 l0.length u0, .slice U1 l1.length u1] rfl s3_ ?_; refine (longW l0 l1 _ P hr0 hc0 hr1 hc1 hL).mono ?_; clear P; rintro e w1 ⟨rfl, P⟩; refine ⟨_, rfl, ?_⟩; (try simp only [List.nil_append, List.cons_append, List.set_cons_zero, List.set_cons_succ] at P)))
 go_ret
 exact ⟨rfl, P.1⟩
 }
 obtain ⟨a0, a1, a2, b0, b1, b2, now, o0, o1, o2, t0, t1, t2, q0, q1, q2, s0, s1, s2, hA, hB, hN, hJ1, hJ2, hJ3, hW, hS1, hS2, hV, hn0, hn1, hAt⟩ := H
 have hw : wrap64 (now + 12) = now + 12 := by unfold wrap64; omega
 go_enter Try.func10, Try.ntmps10
 go_upto_region 10 with (first | ((with_reducible refine gate_dst (N := 33) rfl ?_); (with_reducible refine gate_callee (f := 11) rfl ?_); refine goesL_ (some 33) rfl rfl Try.func11 s2_ rfl #[.slice U0 l0.length u0, .slice U1 l1.length u1] rfl s3_ ?_; refine (longW l0 l1 _ P hr0 hc0 hr1 hc1 hL).mono ?_; clear P; rintro e w1 ⟨rfl, P⟩; refine ⟨_, rfl, ?_⟩; (try simp only [List.nil_append, List.cons_append, List.set_cons_zero, List.set_cons_succ] at P)) | ((with_reducible refine gate_dst (N := 35) rfl ?_); (with_reducible refine gate_callee (f := 12) rfl ?_); refine goesL_ (some 35) rfl rfl Try.func12 s2_ rfl #[.slice U0 l0.length u0] rfl s3_ ?_; refine (presW k l0 a0 a1 a2 P hr0 hc0 hA).mono ?_; clear P; rintro e w1 ⟨A0, Ac0, A1, Ac1, A2, Ac2, rfl, P⟩; refine ⟨_, rfl, ?_⟩; (try simp only [List.nil_append, List.cons_append, List.set_cons_zero, List.set_cons_succ] at P)) | ((with_reducible refine gate_dst (N := 5) rfl ?_); (try (refine gate_guard (by rfl) ?_; dsimp only)); refine bx_ 5 #[.slice none 0 0, .slice none 0 0, .slice none 0 0] 27 ?_; intro g5 hg w1 hbox hb; replace P := P.box hg hbox hb; clear hb hbox hg; (try simp only [List.nil_append, List.cons_append, List.set_cons_zero, List.set_cons_succ] at P); obtain ⟨ce0, ce1, ce2, fe0, fe1, fe2⟩ := P.c3 1 rfl) | ((with_reducible refine gate_store (p := 5) rfl ?_); refine st3 P 1 rfl rfl rfl rfl (by go_simp; rfl) ?_; clear P; intro w1 P; (try simp only [List.nil_append, List.cons_append, List.set_cons_zero, List.set_cons_succ] at P)) | ((with_reducible refine gate_dst (N := 37) rfl ?_); (with_reducible refine gate_callee (f := 12) rfl ?_); refine goesL_ (some 37) rfl rfl Try.func12 s2_ rfl #[.slice U1 l1.length u1] rfl s3_ ?_; refine (presW k l1 b0 b1 b2 P hr1 hc1 hB).mono ?_; clear P; rintro e w1 ⟨B0, Bc0, B1, Bc1, B2, Bc2, rfl, P⟩; refine ⟨_, rfl, ?_⟩; (try simp only [List.nil_append, List.cons_append, List.set_cons_zero, List.set_cons_succ] at P)) | ((with_reducible refine gate_dst (N := 6) rfl ?_); (try (refine gate_guard (by rfl) ?_; dsimp only)); refine bx_ 6 #[.slice none 0 0, .slice none 0 0, .slice none 0 0] 27 ?_; intro g6 hg w1 hbox hb; replace P := P.box hg hbox hb; clear hb hbox hg; (try simp only [List.nil_append, List.cons_append, List.set_cons_zero, List.set_cons_succ] at P); obtain ⟨ce0, ce1, ce2, fe0, fe1, fe2⟩ := P.c3 3 rfl) | ((with_reducible refine gate_store (p := 6) rfl ?_); refine st3 P 3 rfl rfl rfl rfl (by go_simp; rfl) ?_; clear P; intro w1 P; (try simp only [List.nil_append, List.cons_append, List.set_cons_zero, List.set_cons_succ] at P)) | ((with_reducible refine gate_dst (N := 39) rfl ?_); (with_reducible refine gate_callee (f := 13) rfl ?_); refine goesL_ (some 39) rfl rfl Try.func13 s2_ rfl #[.slice U1 l1.length u1, .int .i64 0, .int .i64 24] rfl s3_ ?_; refine (atW l1 0 24 now P hr1 hc1 hN).mono ?_; clear P; rintro e w1 ⟨rfl, P⟩; refine ⟨_, rfl, ?_⟩; (try simp only [List.nil_append, List.cons_append, List.set_cons_zero, List.set_cons_succ] at P); obtain ⟨ce0, ce1, ce2, fe0, fe1, fe2⟩ := P.c3 1 rfl; obtain ⟨ce0b, ce1b, ce2b, fe0b, fe1b, fe2b⟩ := P.c3 3 rfl) | ((with_reducible refine gate_dst (N := 43) rfl ?_); (with_reducible refine gate_callee (f := 37) rfl ?_); refine goesL_ (some 43) rfl rfl Try.func37 s2_ rfl #[.agg #[.slice A0 a0.length Ac0, .slice A1 a1.length Ac1, .slice A2 a2.length Ac2], .agg #[.slice B0 b0.length Bc0, .slice B1 b1.length Bc1, .slice B2 b2.length Bc2]] rfl s3_ ?_; refine (joinR k o0 o1 o2 true P 0 2 rfl rfl hJ1).mono ?_; clear P; rintro e w1 ⟨O0, Oc0, O1, Oc1, O2, Oc2, rfl, P⟩; refine ⟨_, rfl, ?_⟩; (try simp only [List.nil_append, List.cons_append, List.set_cons_zero, List.set_cons_succ] at P)) | ((with_reducible refine gate_dst (N := 8) rfl ?_); (try (refine gate_guard (by rfl) ?_; dsimp only)); refine bx_ 8 #[.slice none 0 0, .slice none 0 0, .slice none 0 0] 27 ?_; intro g8 hg w1 hbox hb; replace P := P.box hg hbox hb; clear hb hbox hg; (try simp only [List.nil_append, List.cons_append, List.set_cons_zero, List.set_cons_succ] at P); obtain ⟨ce0, ce1, ce2, fe0, fe1, fe2⟩ := P.c3 5 rfl) | ((with_reducible refine gate_store (p := 8) rfl ?_); refine st3 P 5 rfl rfl rfl rfl (by go_simp; rfl) ?_; clear P; intro w1 P; (try simp only [List.nil_append, List.cons_append, List.set_cons_zero, List.set_cons_succ] at P); obtain ⟨ce0, ce1, ce2, fe0, fe1, fe2⟩ := P.c3 1 rfl; obtain ⟨ce0b, ce1b, ce2b, fe0b, fe1b, fe2b⟩ := P.c3 3 rfl) | ((with_reducible refine gate_dst (N := 49) rfl ?_); (with_reducible refine gate_callee (f := 37) rfl ?_); refine goesL_ (some 49) rfl rfl Try.func37 s2_ rfl #[.agg #[.slice B0 b0.length Bc0, .slice B1 b1.length Bc1, .slice B2 b2.length Bc2], .agg #[.slice A0 a0.length Ac0, .slice A1 a1.length Ac1, .slice A2 a2.length Ac2]] rfl s3_ ?_; refine (joinR k t0 t1 t2 true P 2 0 rfl rfl hJ2).mono ?_; clear P; rintro e w1 ⟨T0, Tc0, T1, Tc1, T2, Tc2, rfl, P⟩; refine ⟨_, rfl, ?_⟩; (try simp only [List.nil_append, List.cons_append, List.set_cons_zero, List.set_cons_succ] at P)) | ((with_reducible refine gate_dst (N := 10) rfl ?_); (try (refine gate_guard (by rfl) ?_; dsimp only)); refine bx_ 10 #[.slice none 0 0, .slice none 0 0, .slice none 0 0] 27 ?_; intro g10 hg w1 hbox hb; replace P := P.box hg hbox hb; clear hb hbox hg; (try simp only [List.nil_append, List.cons_append, List.set_cons_zero, List.set_cons_succ] at P); obtain ⟨ce0, ce1, ce2, fe0, fe1, fe2⟩ := P.c3 7 rfl) | ((with_reducible refine gate_store (p := 10) rfl ?_); refine st3 P 7 rfl rfl rfl rfl (by go_simp; rfl) ?_; clear P; intro w1 P; (try simp only [List.nil_append, List.cons_append, List.set_cons_zero, List.set_cons_succ] at P); obtain ⟨ce0, ce1, ce2, fe0, fe1, fe2⟩ := P.c3 1 rfl; obtain ⟨ce0b, ce1b, ce2b, fe0b, fe1b, fe2b⟩ := P.c3 3 rfl) | ((with_reducible refine gate_dst (N := 55) rfl ?_); (with_reducible refine gate_callee (f := 37) rfl ?_); refine goesL_ (some 55) rfl rfl Try.func37 s2_ rfl #[.agg #[.slice A0 a0.length Ac0, .slice A1 a1.length Ac1, .slice A2 a2.length Ac2], .agg #[.slice A0 a0.length Ac0, .slice A1 a1.length Ac1, .slice A2 a2.length Ac2]] rfl s3_ ?_; refine (joinR k q0 q1 q2 true P 0 0 rfl rfl hJ3).mono ?_; clear P; rintro e w1 ⟨Q0, Qc0, Q1, Qc1, Q2, Qc2, rfl, P⟩; refine ⟨_, rfl, ?_⟩; (try simp only [List.nil_append, List.cons_append, List.set_cons_zero, List.set_cons_succ] at P)) | ((with_reducible refine gate_dst (N := 12) rfl ?_); (try (refine gate_guard (by rfl) ?_; dsimp only)); refine bx_ 12 #[.slice none 0 0, .slice none 0 0, .slice none 0 0] 27 ?_; intro g12 hg w1 hbox hb; replace P := P.box hg hbox hb; clear hb hbox hg; (try simp only [List.nil_append, List.cons_append, List.set_cons_zero, List.set_cons_succ] at P); obtain ⟨ce0, ce1, ce2, fe0, fe1, fe2⟩ := P.c3 9 rfl) | ((with_reducible refine gate_store (p := 12) rfl ?_); refine st3 P 9 rfl rfl rfl rfl (by go_simp; rfl) ?_; clear P; intro w1 P; (try simp only [List.nil_append, List.cons_append, List.set_cons_zero, List.set_cons_succ] at P); obtain ⟨ce0, ce1, ce2, fe0, fe1, fe2⟩ := P.c3 1 rfl; obtain ⟨ce0b, ce1b, ce2b, fe0b, fe1b, fe2b⟩ := P.c3 3 rfl) | ((with_reducible refine gate_dst (N := 61) rfl ?_); (with_reducible refine gate_callee (f := 31) rfl ?_); refine goesL_ (some 61) rfl rfl Try.func31 s2_ rfl #[.agg #[.slice A0 a0.length Ac0, .slice A1 a1.length Ac1, .slice A2 a2.length Ac2], .int .i64 now] rfl s3_ ?_; refine (sweepR k s0 s1 s2 true now P 0 rfl hW).mono ?_; clear P; rintro e w1 ⟨W0, Wc0, W1, Wc1, W2, Wc2, rfl, P⟩; refine ⟨_, rfl, ?_⟩; (try simp only [List.nil_append, List.cons_append, List.set_cons_zero, List.set_cons_succ] at P)) | ((with_reducible refine gate_dst (N := 14) rfl ?_); (try (refine gate_guard (by rfl) ?_; dsimp only)); refine bx_ 14 #[.slice none 0 0, .slice none 0 0, .slice none 0 0] 27 ?_; intro g14 hg w1 hbox hb; replace P := P.box hg hbox hb; clear hb hbox hg; (try simp only [List.nil_append, List.cons_append, List.set_cons_zero, List.set_cons_succ] at P); obtain ⟨ce0, ce1, ce2, fe0, fe1, fe2⟩ := P.c3 11 rfl) | ((with_reducible refine gate_store (p := 14) rfl ?_); refine st3 P 11 rfl rfl rfl rfl (by go_simp; rfl) ?_; clear P; intro w1 P; (try simp only [List.nil_append, List.cons_append, List.set_cons_zero, List.set_cons_succ] at P)))
 replace P : Pool w _ [rp w.heap.size A0 a0.length Ac0 a0 A1 a1.length Ac1 a1 A2 a2.length Ac2 a2, rbox g5 #[.slice A0 a0.length Ac0, .slice A1 a1.length Ac1, .slice A2 a2.length Ac2] 27, rp w.heap.size B0 b0.length Bc0 b0 B1 b1.length Bc1 b1 B2 b2.length Bc2 b2, rbox g6 #[.slice B0 b0.length Bc0, .slice B1 b1.length Bc1, .slice B2 b2.length Bc2] 27, rp w.heap.size O0 o0.length Oc0 o0 O1 o1.length Oc1 o1 O2 o2.length Oc2 o2, rbox g8 #[.slice O0 o0.length Oc0, .slice O1 o1.length Oc1, .slice O2 o2.length Oc2] 27, rp w.heap.size T0 t0.length Tc0 t0 T1 t1.length Tc1 t1 T2 t2.length Tc2 t2, rbox g10 #[.slice T0 t0.length Tc0, .slice T1 t1.length Tc1, .slice T2 t2.length Tc2] 27, rp w.heap.size Q0 q0.length Qc0 q0 Q1 q1.length Qc1 q1 Q2 q2.length Qc2 q2, rbox g12 #[.slice Q0 q0.length Qc0, .slice Q1 q1.length Qc1, .slice Q2 q2.length Qc2] 27, rp w.heap.size W0 s0.length Wc0 s0 W1 s1.length Wc1 s1 W2 s2.length Wc2 s2, rbox g14 #[.slice W0 s0.length Wc0, .slice W1 s1.length Wc1, .slice W2 s2.length Wc2] 27] := P.pick [0, 1, 2, 3, 4, 5, 6, 7, 8, 9, 10, 11] _ (by decide) rfl
 obtain ⟨ce0, ce1, ce2, fe0, fe1, fe2⟩ := P.c3 5 rfl; obtain ⟨ce0b, ce1b, ce2b, fe0b, fe1b, fe2b⟩ := P.c3 7 rfl
 try go_wp2_with (fail)
 refine (sameR k true P 4 6 rfl rfl hS1).mono ?_
 clear P
 rintro e w1 ⟨rfl, P⟩
 obtain ⟨ce0, ce1, ce2, fe0, fe1, fe2⟩ := P.c3 9 rfl; obtain ⟨ce0b, ce1b, ce2b, fe0b, fe1b, fe2b⟩ := P.c3 1 rfl
 try go_wp2_with (fail)
 refine (sameR k true P 8 0 rfl rfl hS2).mono ?_
 clear P
 rintro e w1 ⟨rfl, P⟩
 obtain ⟨ce0, ce1, ce2, fe0, fe1, fe2⟩ := P.c3 11 rfl
 try go_wp2_with (fail)
 refine (validP k true P 10 rfl hV).mono ?_
 clear P
 rintro e w1 ⟨rfl, P⟩
 try go_wp2_with (fail)
 go_loopg [16] 13 (fun kq v w' => ∃ t : Int, v = .int .i64 t ∧ Aside0 (now ≤ t ∧ t ≤ now + 12 ∧ (kq : Int) + t = now + 13) ∧ Pool w w' [rp w.heap.size A0 a0.length Ac0 a0 A1 a1.length Ac1 a1 A2 a2.length Ac2 a2, rbox g5 #[.slice A0 a0.length Ac0, .slice A1 a1.length Ac1, .slice A2 a2.length Ac2] 27, rp w.heap.size B0 b0.length Bc0 b0 B1 b1.length Bc1 b1 B2 b2.length Bc2 b2, rbox g6 #[.slice B0 b0.length Bc0, .slice B1 b1.length Bc1, .slice B2 b2.length Bc2] 27, rp w.heap.size O0 o0.length Oc0 o0 O1 o1.length Oc1 o1 O2 o2.length Oc2 o2, rbox g8 #[.slice O0 o0.length Oc0, .slice O1 o1.length Oc1, .slice O2 o2.length Oc2] 27, rp w.heap.size T0 t0.length Tc0 t0 T1 t1.length Tc1 t1 T2 t2.length Tc2 t2, rbox g10 #[.slice T0 t0.length Tc0, .slice T1 t1.length Tc1, .slice T2 t2.length Tc2] 27, rp w.heap.size Q0 q0.length Qc0 q0 Q1 q1.length Qc1 q1 Q2 q2.length Qc2 q2, rbox g12 #[.slice Q0 q0.length Qc0, .slice Q1 q1.length Qc1, .slice Q2 q2.length Qc2] 27, rp w.heap.size W0 s0.length Wc0 s0 W1 s1.length Wc1 s1 W2 s2.length Wc2 s2, rbox g14 #[.slice W0 s0.length Wc0, .slice W1 s1.length Wc1, .slice W2 s2.length Wc2] 27])
 case atStart => exact ⟨now, rfl, ⟨by omega⟩, P⟩
 case round =>
 clear P
 obtain ⟨t, rfl, HI, P⟩ := hrel
 cases gk with
 | zero => exact absurd HI.out (by omega)
 | succ k1 =>
 by_cases c1 : t < now + 12
 {
 obtain ⟨x, y, z, u, v, m_, m, h1, h2, h3, h4, h5, h6, h7, h8, h9, h10⟩ := hAt t HI.out.1 c1
 have q1 := decide_eq_true c1
 have q2 : decide (t < wrap64 (now + 12)) = true := by rw [hw]; exact q1
 have hw2 : wrap64 (t + 1) = t + 1 := by have := HI.out; unfold wrap64; omega
 obtain ⟨ce0, ce1, ce2, fe0, fe1, fe2⟩ := P.c3 1 rfl
 try go_wp2_with (first | ((with_reducible refine gate_dst (N := 105) rfl ?_); (with_reducible refine gate_callee (f := 15) rfl ?_); refine goesL_ (some 105) rfl rfl Try.func15 s2_ rfl #[.agg #[.slice A0 a0.length Ac0, .slice A1 a1.length Ac1, .slice A2 a2.length Ac2], .int .i64 t] rfl s3_ ?_; refine (presentR k x true t P 0 rfl h1).mono ?_; clear P; rintro e w1 ⟨X, Xc, rfl, P⟩; refine ⟨_, rfl, ?_⟩; (try simp only [List.nil_append, List.cons_append, List.set_cons_zero, List.set_cons_succ] at P); obtain ⟨ce0, ce1, ce2, fe0, fe1, fe2⟩ := P.c3 3 rfl) | ((with_reducible refine gate_dst (N := 111) rfl ?_); (with_reducible refine gate_callee (f := 15) rfl ?_); refine goesL_ (some 111) rfl rfl Try.func15 s2_ rfl #[.agg #[.slice B0 b0.length Bc0, .slice B1 b1.length Bc1, .slice B2 b2.length Bc2], .int .i64 t] rfl s3_ ?_; refine (presentR k y true t P 2 rfl h2).mono ?_; clear P; rintro e w1 ⟨Y, Yc, rfl, P⟩; refine ⟨_, rfl, ?_⟩; (try simp only [List.nil_append, List.cons_append, List.set_cons_zero, List.set_cons_succ] at P); obtain ⟨ce0, ce1, ce2, fe0, fe1, fe2⟩ := P.c3 5 rfl) | ((with_reducible refine gate_dst (N := 117) rfl ?_); (with_reducible refine gate_callee (f := 15) rfl ?_); refine goesL_ (some 117) rfl rfl Try.func15 s2_ rfl #[.agg #[.slice O0 o0.length Oc0, .slice O1 o1.length Oc1, .slice O2 o2.length Oc2], .int .i64 t] rfl s3_ ?_; refine (presentR k z true t P 4 rfl h3).mono ?_; clear P; rintro e w1 ⟨Z, Zc, rfl, P⟩; refine ⟨_, rfl, ?_⟩; (try simp only [List.nil_append, List.cons_append, List.set_cons_zero, List.set_cons_succ] at P); obtain ⟨ce0, ce1, ce2, fe0, fe1, fe2⟩ := P.c3 11 rfl) | ((with_reducible refine gate_dst (N := 123) rfl ?_); (with_reducible refine gate_callee (f := 15) rfl ?_); refine goesL_ (some 123) rfl rfl Try.func15 s2_ rfl #[.agg #[.slice W0 s0.length Wc0, .slice W1 s1.length Wc1, .slice W2 s2.length Wc2], .int .i64 t] rfl s3_ ?_; refine (presentR k u true t P 10 rfl h4).mono ?_; clear P; rintro e w1 ⟨V, Vc, rfl, P⟩; refine ⟨_, rfl, ?_⟩; (try simp only [List.nil_append, List.cons_append, List.set_cons_zero, List.set_cons_succ] at P); obtain ⟨ce0, ce1, ce2, fe0, fe1, fe2⟩ := P.c3 1 rfl) | ((with_reducible refine gate_dst (N := 129) rfl ?_); (with_reducible refine gate_callee (f := 17) rfl ?_); refine goesL_ (some 129) rfl rfl Try.func17 s2_ rfl #[.agg #[.slice A0 a0.length Ac0, .slice A1 a1.length Ac1, .slice A2 a2.length Ac2], .int .i64 t] rfl s3_ ?_; refine (typingR k v true t P 0 rfl h5).mono ?_; clear P; rintro e w1 ⟨G, Gc, rfl, P⟩; refine ⟨_, rfl, ?_⟩; (try simp only [List.nil_append, List.cons_append, List.set_cons_zero, List.set_cons_succ] at P); obtain ⟨ce0, ce1, ce2, fe0, fe1, fe2⟩ := P.c3 11 rfl) | ((with_reducible refine gate_dst (N := 135) rfl ?_); (with_reducible refine gate_callee (f := 17) rfl ?_); refine goesL_ (some 135) rfl rfl Try.func17 s2_ rfl #[.agg #[.slice W0 s0.length Wc0, .slice W1 s1.length Wc1, .slice W2 s2.length Wc2], .int .i64 t] rfl s3_ ?_; refine (typingR k m_ true t P 10 rfl h6).mono ?_; clear P; rintro e w1 ⟨I, Ic, rfl, P⟩; refine ⟨_, rfl, ?_⟩; (try simp only [List.nil_append, List.cons_append, List.set_cons_zero, List.set_cons_succ] at P)) | ((with_reducible refine gate_dst (N := 141) rfl ?_); (with_reducible refine gate_callee (f := 39) rfl ?_); refine goesL_ (some 141) rfl rfl Try.func39 s2_ rfl #[.slice X x.length Xc, .slice Y y.length Yc] rfl s3_ ?_; refine (setsR k x y m true P 12 13 rfl rfl h7).mono ?_; clear P; rintro e w1 ⟨M, Mc, rfl, P⟩; refine ⟨_, rfl, ?_⟩; (try simp only [List.nil_append, List.cons_append, List.set_cons_zero, List.set_cons_succ] at P)))
 try go_wp2_with (fail)
 refine (numsR k m z true P 18 14 rfl rfl h8).mono ?_
 clear P
 rintro e w1 ⟨rfl, P⟩
 try go_wp2_with (fail)
 refine (numsR k x u true P 12 15 rfl rfl h9).mono ?_
 clear P
 rintro e w1 ⟨rfl, P⟩
 try go_wp2_with (fail)
 refine (numsR k v m_ true P 16 17 rfl rfl h10).mono ?_
 clear P
 rintro e w1 ⟨rfl, P⟩
 try go_wp2_with (fail)
 go_roundg k1
 case measure => have := HI.out; omega
 case rel => exact ⟨wrap64 (t + 1), s1_, ⟨by have := HI.out; rw [hw2]; omega⟩, P.pick [0, 1, 2, 3, 4, 5, 6, 7, 8, 9, 10, 11] _ (by decide) rfl⟩
 }
 {
 have q1 := decide_eq_false c1
 have q2 : decide (t < wrap64 (now + 12)) = false := by rw [hw]; exact q1
 try go_wp2_with (fail)
 go_ret
 exact ⟨rfl, P.1⟩
 }
theorem ReadsInt.ofRow {k : IntKind} {w : World} {a : Option Addr} {len cap : Nat} {zs : List Int} (h : (a = none ∧ len = 0 ∧ cap = 0 ∧ zs = []) ∨ ∃ x, a = some x ∧ len ≤ cap ∧ cap ≤ maxLen ∧ zs.length = cap ∧ (∀ i, i < zs.length → w.cell? (x.add i) = some (.int k (zs.getD i 0))) ∧ ∀ n ∈ zs, (Lit.int k n).wf = true) :
    ∃ l : List Int, len = l.length ∧ ReadsInt w k a l.length l ∧ l.length ≤ maxLen ∧ ∀ x ∈ l, (Lit.int k x).wf = true := by
  rcases h with ⟨rfl, rfl, rfl, rfl⟩ | ⟨x, rfl, hl, hm, hz, hc, hw⟩
  · exact ⟨[], rfl, ReadsInt.nil _ _, Nat.zero_le _, fun x hx => by simp at hx⟩
  · have e : (zs.take len).length = len := by simp; omega
    have hm' : len ≤ maxLen := Nat.le_trans hl hm
    refine ⟨zs.take len, e.symm, ⟨rfl, by rw [e]; simpa [maxLen] using hm', fun _ => ⟨x, rfl, fun j hj => ?_⟩⟩, by rw [e]; exact hm', fun y hy => hw y (List.mem_of_mem_take hy)⟩
    rw [e] at hj
    rw [hc j (by omega)]
    simp [List.getD, List.getElem?_take, hj]
theorem ReadsInt.ofRowC {k : IntKind} {w : World} {a : Option Addr} {len cap : Nat} {zs : List Int} (h : (a = none ∧ len = 0 ∧ cap = 0 ∧ zs = []) ∨ ∃ x, a = some x ∧ len ≤ cap ∧ cap ≤ maxLen ∧ zs.length = cap ∧ (∀ i, i < zs.length → w.cell? (x.add i) = some (.int k (zs.getD i 0))) ∧ ∀ n ∈ zs, (Lit.int k n).wf = true) :
    ∃ l : List Int, len = l.length ∧ ReadsInt w k a l.length l ∧ l.length ≤ maxLen ∧ (∀ x ∈ l, (Lit.int k x).wf = true) ∧ l.length ≤ cap := by
  have hl : len ≤ cap := by
    rcases h with ⟨_, rfl, rfl, _⟩ | ⟨_, _, h, _⟩
    · exact Nat.le_refl _
    · exact h
  obtain ⟨l, e, h1, h2, h3⟩ := ReadsInt.ofRow h
  exact ⟨l, e, h1, h2, h3, e ▸ hl⟩
theorem Kd.C_of_reads {α : Type} {enc : α → Value} {d : α} {h1 : ∀ x, (enc x).oneCell' = true} {w : World} {A : Option Addr} {n : Nat} {xs : List α} (h : ReadsOf enc d w A n xs) : (Kd.scalar enc h1).C w A n xs := by
  refine ⟨h.1, h.2.1, fun hn => ?_⟩
  obtain ⟨ad, e, hc⟩ := h.2.2 hn
  refine ⟨ad, e, fun j p hj => ⟨[enc p], rfl, rfl, fun i u hu => ?_⟩⟩
  obtain ⟨hl, hp⟩ := List.getElem?_eq_some_iff.1 hj
  have h2 := hc j (by have := h.1; omega)
  rw [List.getD_eq_getElem?_getD, hj] at h2
  cases i with
  | zero =>
    have : enc p = u := by simpa using hu
    subst this
    simpa [Kd.scalar] using h2
  | succ i => simp at hu
def laws_FnJoinedPresence.Pure : Prop := ∀ l0 l1 : List Int, l0.length ≤ maxLen → l0.length * 1 ≤ 140737488351232 → (∀ n ∈ l0, (Lit.int .u8 n).wf = true) → l1.length ≤ maxLen → l1.length * 1 ≤ 140737488351232 → (∀ n ∈ l1, (Lit.int .u8 n).wf = true) → ∃ k, laws_FnJoinedPresence.Ans k l0 l1
theorem laws_FnJoinedPresence.walk (P : laws_FnJoinedPresence.Pure) (a0 : Option Addr) (len0 cap0 : Nat) (z0 : List Int) (a1 : Option Addr) (len1 cap1 : Nat) (z1 : List Int) (w : World) (w0 : (a0 = none ∧ len0 = 0 ∧ cap0 = 0 ∧ z0 = []) ∨ ∃ x, a0 = some x ∧ len0 ≤ cap0 ∧ cap0 ≤ maxLen ∧ z0.length = cap0 ∧ (∀ i, i < z0.length → w.cell? (x.add i) = some (.int .u8 (z0.getD i 0))) ∧ ∀ n ∈ z0, (Lit.int .u8 n).wf = true) (y0 : len0 * 1 ≤ 140737488351232) (w1 : (a1 = none ∧ len1 = 0 ∧ cap1 = 0 ∧ z1 = []) ∨ ∃ x, a1 = some x ∧ len1 ≤ cap1 ∧ cap1 ≤ maxLen ∧ z1.length = cap1 ∧ (∀ i, i < z1.length → w.cell? (x.add i) = some (.int .u8 (z1.getD i 0))) ∧ ∀ n ∈ z1, (Lit.int .u8 n).wf = true) (y1 : len1 * 1 ≤ 140737488351232) :
    Calls Try.prog 10 #[.slice a0 len0 cap0, .slice a1 len1 cap1] w fun e w' => e = .returned (.bool true) ∧ Below w.heap.size w w' := by
  obtain ⟨l0, rfl, hr0, hm0, hw0, hc0⟩ := ReadsInt.ofRowC w0
  obtain ⟨l1, rfl, hr1, hm1, hw1, hc1⟩ := ReadsInt.ofRowC w1
  obtain ⟨k, h⟩ := P l0 l1 hm0 y0 hw0 hm1 y1 hw1
  exact laws_FnJoinedPresence.calls k _ _ l0 _ _ l1 w (Kd.C_of_reads (d := (0 : Int)) (h1 := fun _ => rfl) hr0) hc0 (Kd.C_of_reads (d := (0 : Int)) (h1 := fun _ => rfl) hr1) hc1 h

end Go.Proofs.Ytgfilednbllkmaa.QFnJoinedPresence
