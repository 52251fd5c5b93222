-- by hand, over one pool
import Derived.Test.YtgfilednbllkmaaQFnJoinedPresencex0
import Derived.Test.YtgfilednbllkmaaQFnJoinedPresencex10
import Derived.Test.YtgfilednbllkmaaQFnJoinedPresencex12
import Derived.Test.YtgfilednbllkmaaQFnJoinedPresencex13
import Derived.Test.YtgfilednbllkmaaQFnJoinedPresencex14
import Derived.Test.YtgfilednbllkmaaPl
namespace Go.Proofs.Ytgfilednbllkmaa.QFnJoinedPresence
open Go.RowKit Go.Proofs.YtgfilednbllkmaaW.PrintWords Go.Proofs.YtgfilednbllkmaaW.PrintLast Go.Proofs.YtgfilednbllkmaaW.PrintMore
attribute [local go_sem] max2_int min2_int max_two min_two max_three min_three max_four min_four   -- for this text's walks alone
set_option linter.unusedVariables false
set_option linter.unusedSimpArgs false
/-- The leases of a list put in, one by one. -/
def impl_JoinPresence.l0 : Nat → List S63 → Int → List S63 → Option (List S63)
  | 0, _, _, _ => none
  | k + 1, x, i, h => if i < (x.length : Int) then (if 0 ≤ i then ((impl_leased_n44.f k h ((rd_T63 x i).f0) ((rd_T63 x i).f1)).bind fun t => (impl_JoinPresence.l0 k x (wrap64 (i + 1)) t)) else none) else some h
def impl_JoinPresence.l2 : Nat → List S73 → Int → List S73 → Option (List S73)
  | 0, _, _, _ => none
  | k + 1, x, i, h => if i < (x.length : Int) then (if 0 ≤ i then ((impl_marked_n78.f k h ((rd_T73 x i).f0) ((rd_T73 x i).f1)).bind fun t => (impl_JoinPresence.l2 k x (wrap64 (i + 1)) t)) else none) else some h
/-- What JoinPresence answers. -/
def impl_JoinPresence.f (k : Nat) (a b : List S63) (c : List S73) (x y : List S63) (z : List S73) : Option (List S63 × List S63 × List S73 × Bool) :=
  (impl_ValidPresence.f k x y z).bind fun v => if v = true then ((impl_ValidPresence.f k a b c).bind fun u => if u = true then ((impl_clonePresence.f a b c).bind fun q => ((impl_JoinPresence.l0 k x 0 q.1).bind fun h => ((impl_JoinPresence.l0 k y 0 q.2.1).bind fun t => ((impl_JoinPresence.l2 k z 0 q.2.2).bind fun m => ((impl_ValidPresence.f k h t m).bind fun g => if g = true then some (h, t, m, true) else some ([], [], [], false)))))) else some ([], [], [], false)) else some ([], [], [], false)
abbrev impl_JoinPresence.T : Bool := true
abbrev impl_JoinPresence.F : Bool := false
abbrev impl_JoinPresence.m0_ : Array Bool := #[F,F,F,F,F,F,F,F,F,F]
abbrev impl_JoinPresence.m1_ : Array Bool := #[T,F,F,F,F,F,F,F,F,F]
abbrev impl_JoinPresence.m2_ : Array Bool := #[T,T,F,F,F,F,F,F,F,F]
abbrev impl_JoinPresence.m3_ : Array Bool := #[T,T,T,F,F,F,F,F,F,F]
abbrev impl_JoinPresence.m4_ : Array Bool := #[T,T,T,T,F,F,F,F,F,F]
abbrev impl_JoinPresence.m5_ : Array Bool := #[T,T,T,T,T,F,F,F,F,F]
abbrev impl_JoinPresence.m6_ : Array Bool := #[T,T,T,T,T,T,F,F,F,F]
abbrev impl_JoinPresence.m7_ : Array Bool := #[T,T,T,T,T,T,T,F,F,F]
abbrev impl_JoinPresence.m8_ : Array Bool := #[T,T,T,T,T,T,T,T,F,F]
abbrev impl_JoinPresence.m9_ : Array Bool := #[T,T,T,T,T,T,T,T,T,F]
abbrev impl_JoinPresence.m10_ : Array Bool := #[T,T,T,T,T,T,T,T,T,T]
def impl_JoinPresence.T4 : Bool × List (List Nat × List Nat) := (true, [([], []), ([], []), ([1], [1]), ([2], [2]), ([3], [3]), ([], []), ([4, 5], [4, 5]), ([0, 0, 1, 2, 3, 4, 5, 6], [0]), ([7, 0, 1, 2, 3, 4, 5, 6], [7]), ([8, 6, 6, 0, 1, 2, 3, 4, 5, 6], [6, 8])])
def impl_JoinPresence.B4 : List Nat := [0, 0, 2, 6, 14, 0, 62, 127, 255, 511]
theorem impl_JoinPresence.tab4 : rtab .any (opsOf Try.f83 4) = impl_JoinPresence.T4 := by kernel_rfl
theorem impl_JoinPresence.bits4 : waitsOk impl_JoinPresence.T4.2 impl_JoinPresence.B4 = true := by kernel_rfl
def impl_JoinPresence.T9 : Bool × List (List Nat × List Nat) := (true, [([], []), ([], []), ([1], [1]), ([2], [2]), ([3], [3]), ([], []), ([4, 5], [4, 5]), ([0, 0, 1, 2, 3, 4, 5, 6], [0]), ([7, 0, 1, 2, 3, 4, 5, 6], [7]), ([8, 6, 6, 0, 1, 2, 3, 4, 5, 6], [6, 8])])
def impl_JoinPresence.B9 : List Nat := [0, 0, 2, 6, 14, 0, 62, 127, 255, 511]
theorem impl_JoinPresence.tab9 : rtab .any (opsOf Try.f83 9) = impl_JoinPresence.T9 := by kernel_rfl
theorem impl_JoinPresence.bits9 : waitsOk impl_JoinPresence.T9.2 impl_JoinPresence.B9 = true := by kernel_rfl
def impl_JoinPresence.T14 : Bool × List (List Nat × List Nat) := (true, [([], []), ([], []), ([1], [1]), ([2], [2]), ([3], [3]), ([], []), ([4, 5], [4, 5]), ([0, 0, 1, 2, 3, 4, 5, 6], [0]), ([7, 0, 1, 2, 3, 4, 5, 6], [7]), ([8, 6, 6, 0, 1, 2, 3, 4, 5, 6], [6, 8])])
def impl_JoinPresence.B14 : List Nat := [0, 0, 2, 6, 14, 0, 62, 127, 255, 511]
theorem impl_JoinPresence.tab14 : rtab .any (opsOf Try.f83 14) = impl_JoinPresence.T14 := by kernel_rfl
theorem impl_JoinPresence.bits14 : waitsOk impl_JoinPresence.T14.2 impl_JoinPresence.B14 = true := by kernel_rfl
section
variable {w0 w w1 : World} {L : List Res} {A0 A1 A2 : Option Addr} {n0 n1 n2 c0 c1 c2 : Nat} {a b : List S63} {c : List S73}
theorem validW (k : Nat) (r : Bool) (P : Pool w0 w L) (hr0 : Kd.C k63 w0 A0 a.length a) (hc0 : a.length ≤ c0) (hr1 : Kd.C k63 w0 A1 b.length b) (hc1 : b.length ≤ c1) (hr2 : Kd.C k73 w0 A2 c.length c) (hc2 : c.length ≤ c2) (h : impl_ValidPresence.f k a b c = some r) :
    Calls Try.prog 19 #[.agg #[.slice A0 a.length c0, .slice A1 b.length c1, .slice A2 c.length c2]] w fun e w' => e = .returned (.bool r) ∧ Pool w0 w' L := by
  refine (impl_ValidPresence.calls k _ _ a _ _ b _ _ c r w (Kd.C_below hr0 P.1) hc0 (Kd.C_below hr1 P.1) hc1 (Kd.C_below hr2 P.1) hc2 h).mono ?_
  rintro e w' ⟨rfl, hb⟩
  exact ⟨rfl, P.below hb⟩
theorem validR (k : Nat) (r : Bool) (P : Pool w0 w L) (i j l : Nat) (hi : L[i]? = some (rrow k63 63 w0.heap.size (.slice A0 n0 c0) a)) (hj : L[j]? = some (rrow k63 63 w0.heap.size (.slice A1 n1 c1) b)) (hl : L[l]? = some (rrow k73 73 w0.heap.size (.slice A2 n2 c2) c)) (h : impl_ValidPresence.f k a b c = some r) :
    Calls Try.prog 19 #[.agg #[.slice A0 n0 c0, .slice A1 n1 c1, .slice A2 n2 c2]] w fun e w' => e = .returned (.bool r) ∧ Pool w0 w' L := by
  obtain ⟨rfl, g0, q0⟩ := P.reads i hi
  obtain ⟨rfl, g1, q1⟩ := P.reads j hj
  obtain ⟨rfl, g2, q2⟩ := P.reads l hl
  refine (impl_ValidPresence.calls k _ _ a _ _ b _ _ c r w q0 g0 q1 g1 q2 g2 h).mono ?_
  rintro e w' ⟨rfl, hb⟩
  exact ⟨rfl, P.below hb⟩
theorem cloneW (x y : List S63) (z : List S73) (P : Pool w0 w L) (hr0 : Kd.C k63 w0 A0 a.length a) (hc0 : a.length ≤ c0) (hr1 : Kd.C k63 w0 A1 b.length b) (hc1 : b.length ≤ c1) (hr2 : Kd.C k73 w0 A2 c.length c) (hc2 : c.length ≤ c2) (h : impl_clonePresence.f a b c = some (x, y, z)) :
    Calls Try.prog 90 #[.agg #[.slice A0 a.length c0, .slice A1 b.length c1, .slice A2 c.length c2]] w fun e w' => ∃ D0 e0 D1 e1 D2 e2, e = .returned (.agg #[.slice D0 x.length e0, .slice D1 y.length e1, .slice D2 z.length e2]) ∧ Pool w0 w' (L ++ [rrow k63 63 w0.heap.size (.slice D0 x.length e0) x, rrow k63 63 w0.heap.size (.slice D1 y.length e1) y, rrow k73 73 w0.heap.size (.slice D2 z.length e2) z]) := by
  refine (impl_clonePresence.calls _ _ a _ _ b _ _ c x y z w (Kd.C_below hr0 P.1) hc0 (Kd.C_below hr1 P.1) hc1 (Kd.C_below hr2 P.1) hc2 h).mono ?_
  rintro e w' ⟨v0, v1, v2, rfl, g0, g1, g2, hb⟩
  obtain ⟨D0, e0, rfl⟩ := Kd.R_slice g0
  obtain ⟨D1, e1, rfl⟩ := Kd.R_slice g1
  obtain ⟨D2, e2, rfl⟩ := Kd.R_slice g2
  exact ⟨D0, e0, D1, e1, D2, e2, rfl, P.rows3 hb g0 g1 g2 (fun k hk => hk) (by decide) (by decide) rfl rfl rfl⟩
theorem leasedP (k : Nat) (r : List S63) (p q : Int) (P : Pool w0 w L) (i : Nat) (hi : L[i]? = some (rrow k63 63 w0.heap.size (.slice A0 n0 c0) a)) (h : impl_leased_n44.f k a p q = some r) :
    Calls Try.prog 44 #[.slice A0 n0 c0, .agg #[.int .i64 p, .int .i64 q]] w fun e w' => ∃ D e0, e = .returned (.slice D r.length e0) ∧ Pool w0 w' (L.set i (rrow k63 63 w0.heap.size (.slice D r.length e0) r)) := by
  refine (impl_leased_n44.calls k _ _ a p q r w0 w P.1 (P.rown i hi) h).mono ?_
  rintro e w' ⟨v, rfl, g, hb, hk⟩
  obtain ⟨D, e0, rfl⟩ := Kd.R_slice g
  exact ⟨D, e0, rfl, P.row i hi rfl hb hk g⟩
theorem markedP (k : Nat) (r : List S73) (p q : Int) (P : Pool w0 w L) (i : Nat) (hi : L[i]? = some (rrow k73 73 w0.heap.size (.slice A2 n2 c2) c)) (h : impl_marked_n78.f k c p q = some r) :
    Calls Try.prog 78 #[.slice A2 n2 c2, .agg #[.int .i64 p, .int .i64 q]] w fun e w' => ∃ D e0, e = .returned (.slice D r.length e0) ∧ Pool w0 w' (L.set i (rrow k73 73 w0.heap.size (.slice D r.length e0) r)) := by
  refine (impl_marked_n78.calls k _ _ c p q r w0 w P.1 (P.rown i hi) h).mono ?_
  rintro e w' ⟨v, rfl, g, hb, hk⟩
  obtain ⟨D, e0, rfl⟩ := Kd.R_slice g
  exact ⟨D, e0, rfl, P.row i hi rfl hb hk g⟩
end
set_option maxHeartbeats 40000000 in
set_option maxRecDepth 100000 in
theorem impl_JoinPresence.pool (k : Nat) (A0_0 : Option Addr) (c0_0 : Nat) (l0_0 : List (S63)) (A0_1 : Option Addr) (c0_1 : Nat) (l0_1 : List (S63)) (A0_2 : Option Addr) (c0_2 : Nat) (l0_2 : List (S73)) (A1_0 : Option Addr) (c1_0 : Nat) (l1_0 : List (S63)) (A1_1 : Option Addr) (c1_1 : Nat) (l1_1 : List (S63)) (A1_2 : Option Addr) (c1_2 : Nat) (l1_2 : List (S73)) (r1 r2 : List S63) (r3 : List S73) (r4 : Bool) (w : World) (hr0_0 : Kd.C k63 w A0_0 l0_0.length l0_0) (hc0_0 : l0_0.length ≤ c0_0) (hr0_1 : Kd.C k63 w A0_1 l0_1.length l0_1) (hc0_1 : l0_1.length ≤ c0_1) (hr0_2 : Kd.C k73 w A0_2 l0_2.length l0_2) (hc0_2 : l0_2.length ≤ c0_2) (hr1_0 : Kd.C k63 w A1_0 l1_0.length l1_0) (hc1_0 : l1_0.length ≤ c1_0) (hr1_1 : Kd.C k63 w A1_1 l1_1.length l1_1) (hc1_1 : l1_1.length ≤ c1_1) (hr1_2 : Kd.C k73 w A1_2 l1_2.length l1_2) (hc1_2 : l1_2.length ≤ c1_2) (H : impl_JoinPresence.f k l0_0 l0_1 l0_2 l1_0 l1_1 l1_2 = some (r1, r2, r3, r4)) :
    Calls Try.prog 37 #[.agg #[.slice A0_0 l0_0.length c0_0, .slice A0_1 l0_1.length c0_1, .slice A0_2 l0_2.length c0_2], .agg #[.slice A1_0 l1_0.length c1_0, .slice A1_1 l1_1.length c1_1, .slice A1_2 l1_2.length c1_2]] w fun e w' => ∃ D0 e0 D1 e1 D2 e2, e = .returned (.tuple #[.agg #[.slice D0 r1.length e0, .slice D1 r2.length e1, .slice D2 r3.length e2], .bool r4]) ∧ Pool w w' [rp w.heap.size D0 r1.length e0 r1 D1 r2.length e1 r2 D2 r3.length e2 r3] := by
 have hu27 := Try.underlying27
 have hu63 := Try.underlying63
 have hu73 := Try.underlying73
 have P := Pool.nil w
 unfold impl_JoinPresence.f at H
 obtain ⟨v, hv, H⟩ := Option.bind_eq_some_iff.mp H
 cases v with
 | false =>
   obtain ⟨rfl, rfl, rfl, rfl⟩ : [] = r1 ∧ [] = r2 ∧ [] = r3 ∧ false = r4 := by simpa using H
   go_enter Try.func37, Try.ntmps37
   try go_wp2_with (first | ((with_reducible refine gate_dst (N := 2) rfl ?_); (try (refine gate_guard (by rfl) ?_; dsimp only)); refine bx_ 2 #[.slice A0_0 l0_0.length c0_0, .slice A0_1 l0_1.length c0_1, .slice A0_2 l0_2.length c0_2] 27 ?_; intro g2 hg w1 hbox hb; replace P := P.box hg hbox hb; clear hb hbox hg) | ((with_reducible refine gate_dst (N := 3) rfl ?_); (try (refine gate_guard (by rfl) ?_; dsimp only)); refine bx_ 3 #[.slice A1_0 l1_0.length c1_0, .slice A1_1 l1_1.length c1_1, .slice A1_2 l1_2.length c1_2] 27 ?_; intro g3 hg w1 hbox hb; replace P := P.box hg hbox hb; clear hb hbox hg) | ((with_reducible refine gate_dst (N := 4) rfl ?_); (try (refine gate_guard (by rfl) ?_; dsimp only)); refine bx_ 4 #[.slice none 0 0, .slice none 0 0, .slice none 0 0] 27 ?_; intro g4 hg w1 hbox hb; replace P := P.box hg hbox hb; clear hb hbox hg; obtain ⟨ce0, ce1, ce2, fe0, fe1, fe2⟩ := P.c3 1 rfl) | ((with_reducible refine gate_callee (f := 19) rfl ?_); refine goesL_ (some 7) rfl rfl Try.func19 s2_ rfl #[.agg #[.slice A1_0 l1_0.length c1_0, .slice A1_1 l1_1.length c1_1, .slice A1_2 l1_2.length c1_2]] rfl s3_ ?_; refine (validW k false P hr1_0 hc1_0 hr1_1 hc1_1 hr1_2 hc1_2 hv).mono ?_; clear P; rintro e w1 ⟨rfl, P⟩; refine ⟨_, rfl, ?_⟩; obtain ⟨ce0, ce1, ce2, fe0, fe1, fe2⟩ := P.c3 2 rfl) | ((with_reducible refine gate_store (p := 4) rfl ?_); refine st3 P 2 rfl rfl rfl rfl (by go_simp; rfl) ?_; clear P; intro w1 P))
   refine bodyPost_ret (results_ct rfl _ _ g4 27 #[.slice none 0 0, .slice none 0 0, .slice none 0 0] (0, 0) _ rfl (P.cell 2 rfl) Try.underlying27 rfl s2_) rfl ?_
   exact ⟨_, _, _, _, _, _, rfl, P.nil3 _ _ _ rfl rfl rfl⟩
 | true =>
 rw [if_pos rfl] at H
 obtain ⟨u, hu, H⟩ := Option.bind_eq_some_iff.mp H
 cases u with
 | false =>
   obtain ⟨rfl, rfl, rfl, rfl⟩ : [] = r1 ∧ [] = r2 ∧ [] = r3 ∧ false = r4 := by simpa using H
   go_enter Try.func37, Try.ntmps37
   try go_wp2_with (first | ((with_reducible refine gate_dst (N := 2) rfl ?_); (try (refine gate_guard (by rfl) ?_; dsimp only)); refine bx_ 2 #[.slice A0_0 l0_0.length c0_0, .slice A0_1 l0_1.length c0_1, .slice A0_2 l0_2.length c0_2] 27 ?_; intro g2 hg w1 hbox hb; replace P := P.box hg hbox hb; clear hb hbox hg) | ((with_reducible refine gate_dst (N := 3) rfl ?_); (try (refine gate_guard (by rfl) ?_; dsimp only)); refine bx_ 3 #[.slice A1_0 l1_0.length c1_0, .slice A1_1 l1_1.length c1_1, .slice A1_2 l1_2.length c1_2] 27 ?_; intro g3 hg w1 hbox hb; replace P := P.box hg hbox hb; clear hb hbox hg) | ((with_reducible refine gate_dst (N := 4) rfl ?_); (try (refine gate_guard (by rfl) ?_; dsimp only)); refine bx_ 4 #[.slice none 0 0, .slice none 0 0, .slice none 0 0] 27 ?_; intro g4 hg w1 hbox hb; replace P := P.box hg hbox hb; clear hb hbox hg; obtain ⟨ce0, ce1, ce2, fe0, fe1, fe2⟩ := P.c3 1 rfl) | ((with_reducible refine gate_callee (f := 19) rfl ?_); refine goesL_ (some 7) rfl rfl Try.func19 s2_ rfl #[.agg #[.slice A1_0 l1_0.length c1_0, .slice A1_1 l1_1.length c1_1, .slice A1_2 l1_2.length c1_2]] rfl s3_ ?_; refine (validW k true P hr1_0 hc1_0 hr1_1 hc1_1 hr1_2 hc1_2 hv).mono ?_; clear P; rintro e w1 ⟨rfl, P⟩; refine ⟨_, rfl, ?_⟩; obtain ⟨ce0, ce1, ce2, fe0, fe1, fe2⟩ := P.c3 0 rfl))
   go_at_call 42
   go_in
   try go_wp2_with (first | ((with_reducible refine gate_dst (N := 2) rfl ?_); (try (refine gate_guard (by rfl) ?_; dsimp only)); refine bx_ 2 #[.slice A0_0 l0_0.length c0_0, .slice A0_1 l0_1.length c0_1, .slice A0_2 l0_2.length c0_2] 27 ?_; intro gp hg w1 hbox hb; replace P := P.box hg hbox hb; clear hb hbox hg) | ((with_reducible refine gate_dst (N := 4) rfl ?_); (try (refine gate_guard (by rfl) ?_; dsimp only)); refine bx_ 4 #[.slice none 0 0, .slice none 0 0, .slice none 0 0] 27 ?_; intro gr hg w1 hbox hb; replace P := P.box hg hbox hb; clear hb hbox hg; obtain ⟨ce0, ce1, ce2, fe0, fe1, fe2⟩ := P.c3 3 rfl) | ((with_reducible refine gate_callee (f := 19) rfl ?_); refine goesL_ (some 8) rfl rfl Try.func19 s2_ rfl #[.agg #[.slice A0_0 l0_0.length c0_0, .slice A0_1 l0_1.length c0_1, .slice A0_2 l0_2.length c0_2]] rfl s3_ ?_; refine (validW k false P hr0_0 hc0_0 hr0_1 hc0_1 hr0_2 hc0_2 hu).mono ?_; clear P; rintro e w1 ⟨rfl, P⟩; refine ⟨_, rfl, ?_⟩; obtain ⟨ce0, ce1, ce2, fe0, fe1, fe2⟩ := P.c3 4 rfl) | ((with_reducible refine gate_store (p := 4) rfl ?_); refine st3 P 4 rfl rfl rfl rfl (by go_simp; rfl) ?_; clear P; intro w1 P; obtain ⟨ce0, ce1, ce2, fe0, fe1, fe2⟩ := P.c3 2 rfl))
   (try simp only [Exit.inBlock, Exit.then])
   refine bodyPost_ret (results_ct rfl _ _ gr 27 #[.slice none 0 0, .slice none 0 0, .slice none 0 0] (0, 0) _ rfl (P.cell 4 rfl) Try.underlying27 rfl s2_) rfl ?_
   (try simp only [])
   try go_wp2_with (first | ((with_reducible refine gate_store (p := 4) rfl ?_); refine st3 P 2 rfl rfl rfl rfl (by go_simp; rfl) ?_; clear P; intro w1 P))
   refine bodyPost_ret (results_ct rfl _ _ g4 27 #[.slice none 0 0, .slice none 0 0, .slice none 0 0] (0, 0) _ rfl (P.cell 2 rfl) Try.underlying27 rfl s2_) rfl ?_
   exact ⟨_, _, _, _, _, _, rfl, P.nil3 _ _ _ rfl rfl rfl⟩
 | true =>
 rw [if_pos rfl] at H
 obtain ⟨⟨ca, cb, cc⟩, hc, H⟩ := Option.bind_eq_some_iff.mp H
 obtain ⟨h, hh, H⟩ := Option.bind_eq_some_iff.mp H
 obtain ⟨t, ht, H⟩ := Option.bind_eq_some_iff.mp H
 obtain ⟨m, hm, H⟩ := Option.bind_eq_some_iff.mp H
 obtain ⟨g, hg, H⟩ := Option.bind_eq_some_iff.mp H
 simp only [] at hh ht hm
 go_enter Try.func37, Try.ntmps37
 try go_wp2_with (first | ((with_reducible refine gate_dst (N := 2) rfl ?_); (try (refine gate_guard (by rfl) ?_; dsimp only)); refine bx_ 2 #[.slice A0_0 l0_0.length c0_0, .slice A0_1 l0_1.length c0_1, .slice A0_2 l0_2.length c0_2] 27 ?_; intro g2 hg w1 hbox hb; replace P := P.box hg hbox hb; clear hb hbox hg) | ((with_reducible refine gate_dst (N := 3) rfl ?_); (try (refine gate_guard (by rfl) ?_; dsimp only)); refine bx_ 3 #[.slice A1_0 l1_0.length c1_0, .slice A1_1 l1_1.length c1_1, .slice A1_2 l1_2.length c1_2] 27 ?_; intro g3 hg w1 hbox hb; replace P := P.box hg hbox hb; clear hb hbox hg) | ((with_reducible refine gate_dst (N := 4) rfl ?_); (try (refine gate_guard (by rfl) ?_; dsimp only)); refine bx_ 4 #[.slice none 0 0, .slice none 0 0, .slice none 0 0] 27 ?_; intro g4 hg w1 hbox hb; replace P := P.box hg hbox hb; clear hb hbox hg; obtain ⟨ce0, ce1, ce2, fe0, fe1, fe2⟩ := P.c3 1 rfl) | ((with_reducible refine gate_callee (f := 19) rfl ?_); refine goesL_ (some 7) rfl rfl Try.func19 s2_ rfl #[.agg #[.slice A1_0 l1_0.length c1_0, .slice A1_1 l1_1.length c1_1, .slice A1_2 l1_2.length c1_2]] rfl s3_ ?_; refine (validW k true P hr1_0 hc1_0 hr1_1 hc1_1 hr1_2 hc1_2 hv).mono ?_; clear P; rintro e w1 ⟨rfl, P⟩; refine ⟨_, rfl, ?_⟩; obtain ⟨ce0, ce1, ce2, fe0, fe1, fe2⟩ := P.c3 0 rfl))
 go_at_call 42
 go_in
 try go_wp2_with (first | ((with_reducible refine gate_dst (N := 2) rfl ?_); (try (refine gate_guard (by rfl) ?_; dsimp only)); refine bx_ 2 #[.slice A0_0 l0_0.length c0_0, .slice A0_1 l0_1.length c0_1, .slice A0_2 l0_2.length c0_2] 27 ?_; intro gp hg w1 hbox hb; replace P := P.box hg hbox hb; clear hb hbox hg) | ((with_reducible refine gate_dst (N := 4) rfl ?_); (try (refine gate_guard (by rfl) ?_; dsimp only)); refine bx_ 4 #[.slice none 0 0, .slice none 0 0, .slice none 0 0] 27 ?_; intro gr hg w1 hbox hb; replace P := P.box hg hbox hb; clear hb hbox hg; obtain ⟨ce0, ce1, ce2, fe0, fe1, fe2⟩ := P.c3 3 rfl) | ((with_reducible refine gate_callee (f := 19) rfl ?_); refine goesL_ (some 8) rfl rfl Try.func19 s2_ rfl #[.agg #[.slice A0_0 l0_0.length c0_0, .slice A0_1 l0_1.length c0_1, .slice A0_2 l0_2.length c0_2]] rfl s3_ ?_; refine (validW k true P hr0_0 hc0_0 hr0_1 hc0_1 hr0_2 hc0_2 hu).mono ?_; clear P; rintro e w1 ⟨rfl, P⟩; refine ⟨_, rfl, ?_⟩; obtain ⟨ce0, ce1, ce2, fe0, fe1, fe2⟩ := P.c3 3 rfl) | ((with_reducible refine gate_callee (f := 90) rfl ?_); refine goesL_ (some 12) rfl rfl Try.func90 s2_ rfl #[.agg #[.slice A0_0 l0_0.length c0_0, .slice A0_1 l0_1.length c0_1, .slice A0_2 l0_2.length c0_2]] rfl s3_ ?_; refine (cloneW ca cb cc P hr0_0 hc0_0 hr0_1 hc0_1 hr0_2 hc0_2 hc).mono ?_; clear P; rintro e w1 ⟨D0, d0, D1, d1, D2, d2, rfl, P⟩; refine ⟨_, rfl, ?_⟩) | ((with_reducible refine gate_dst (N := 6) rfl ?_); (try (refine gate_guard (by rfl) ?_; dsimp only)); refine bx_ 6 #[.slice none 0 0, .slice none 0 0, .slice none 0 0] 27 ?_; intro g6 hg w1 hbox hb; replace P := P.box hg hbox hb; clear hb hbox hg; obtain ⟨ce0, ce1, ce2, fe0, fe1, fe2⟩ := P.c3 8 rfl) | ((with_reducible refine gate_store (p := 6) rfl ?_); refine st3 P 8 rfl rfl rfl rfl (by go_simp; rfl) ?_; clear P; intro w1 P))
 go_at_call 83
 go_in
 obtain ⟨ce0, ce1, ce2, fe0, fe1, fe2⟩ := P.c3 1 rfl
 try go_wp2_with (fail)
 go_loopg [13] k (fun kq v w' => ∃ (i : Int) (y : List S63) (B0 : Option Addr) (b0 : Nat), v = .int .i64 i ∧ Aside0 (impl_JoinPresence.l0 kq l1_0 i y = some h) ∧ Aside0 (kq ≤ k) ∧ Pool w w' [rbox g2 #[.slice A0_0 l0_0.length c0_0, .slice A0_1 l0_1.length c0_1, .slice A0_2 l0_2.length c0_2] 27, rbox g3 #[.slice A1_0 l1_0.length c1_0, .slice A1_1 l1_1.length c1_1, .slice A1_2 l1_2.length c1_2] 27, rbox g4 #[.slice none 0 0, .slice none 0 0, .slice none 0 0] 27, rbox gp #[.slice A0_0 l0_0.length c0_0, .slice A0_1 l0_1.length c0_1, .slice A0_2 l0_2.length c0_2] 27, rbox gr #[.slice none 0 0, .slice none 0 0, .slice none 0 0] 27, rrow k63 63 w.heap.size (.slice B0 y.length b0) y, rrow k63 63 w.heap.size (.slice D1 cb.length d1) cb, rrow k73 73 w.heap.size (.slice D2 cc.length d2) cc, rbox g6 #[.slice B0 y.length b0, .slice D1 cb.length d1, .slice D2 cc.length d2] 27])
 case atStart => exact ⟨0, ca, D0, d0, rfl, ⟨hh⟩, ⟨Nat.le_refl _⟩, P.pick [0, 1, 2, 3, 4, 5, 6, 7, 8] _ (by decide) rfl⟩
 case round =>
 clear P
 obtain ⟨i, y, B0, b0, rfl, HA, HK, P⟩ := hrel
 cases gk with
 | zero => exact absurd HA.out (by simp [impl_JoinPresence.l0])
 | succ k1 =>
 have HI := HA.out
 clear HA
 simp only [impl_JoinPresence.l0] at HI
 by_cases c1 : i < (l1_0.length : Int)
 {
 rw [if_pos c1] at HI
 by_cases c2 : 0 ≤ i
 {
 rw [if_pos c2] at HI
 obtain ⟨y2, hy, HI⟩ := Option.bind_eq_some_iff.mp HI
 obtain ⟨ad, ead, hx0, hx1⟩ := at_T63 (Kd.C_below hr1_0 P.1) i c2 c1
 cases ead
 have HI2 := A_ HI
 have hy2 := A_ hy
 clear HI hy
 have q1 := decide_eq_true c1
 have q2 := decide_eq_true c2
 replace c1 := eq_true c1
 replace c2 := eq_true c2
 go_wp2_with (first | ((with_reducible refine gate_dst (N := 5) rfl ?_); (try (refine gate_guard (by rfl) ?_; dsimp only)); refine bx_ 5 #[.int .i64 0, .int .i64 0] 63 ?_; intro g5 hg w1 hbox hb; replace P := P.box hg hbox hb; clear hb hbox hg; obtain ⟨ce0, ce1, fe0, fe1⟩ := P.c2 9 rfl) | ((with_reducible refine gate_store (p := 5) rfl ?_); refine st2 P 9 rfl rfl rfl rfl (by go_simp; rfl) ?_; clear P; intro w1 P))
 replace P := P.drew
 refine start_ (n := 10) (S := fun w' => C3 w' g6 (.slice B0 y.length b0) (.slice D1 cb.length d1) (.slice D2 cc.length d2) ∧ C2 w' g5 (.int .i64 ((rd_T63 l1_0 i).f0)) (.int .i64 ((rd_T63 l1_0 i).f1))) (ds := [9]) m0_ s2_ rfl rfl ⟨P.held3 8 rfl, P.held2 9 rfl⟩ (fun hHeld => ?_)
 refine with_tabW impl_JoinPresence.tab4 impl_JoinPresence.bits4 (fun HT_ HW_ => ?_)
 generalize World.drew _ = w1 at P hHeld ⊢
 refine pu_ 0 17 m1_ (any_of HT_.out s2_) ?_
 refine pu_ 1 18 m2_ (any_of HT_.out s2_) ?_
 refine pu_ 2 19 m3_ (any_of HT_.out s2_) ?_
 refine pu_ 3 20 m4_ (any_of HT_.out s2_) ?_
 refine take_ (i := 4) (N := some 21) (v := ?_) (a' := ?_) m5_ rfl rfl (take_ofW HT_.out HW_.out s2_) (fun _ _ _ h => h) (Or.inl ⟨by rfl, ?_⟩) hHeld ?_ ?_
 rotate_left
 { rintro w' ⟨⟨s0, s1, s2⟩, s3, s4⟩; go_simp; with_reducible rfl }
 rotate_left
 · exact p1_
 refine take_ (i := 5) (N := some 22) (v := ?_) (a' := ?_) m6_ rfl rfl (take_ofW HT_.out HW_.out s2_) (fun _ _ _ h => h) (Or.inl ⟨by rfl, ?_⟩) hHeld ?_ ?_
 rotate_left
 { rintro w' ⟨⟨s0, s1, s2⟩, s3, s4⟩; go_simp; with_reducible rfl }
 rotate_left
 · exact p1_
 refine one_ (i := 6) (N := some 23) m7_ rfl rfl (one_of HT_.out s2_) (by decide) (fun K hK => ?_)
 refine goes_ Try.func44 s2_ rfl #[.slice B0 y.length b0, .agg #[.int .i64 ((rd_T63 l1_0 i).f0), .int .i64 ((rd_T63 l1_0 i).f1)]] (by rfl) rfl rfl s3_ ?_
 refine (leasedP k1 y2 _ _ P 5 rfl hy2.out).mono ?_
 clear P
 rintro e_ w1 ⟨E, e, rfl, P⟩
 refine ⟨_, rfl, ?_⟩
 refine hK.out _ _ ⟨P.held3 8 rfl, P.held2 9 rfl⟩ (fun hHeld => ?_)
 clear hK K
 refine norm_ (a' := ?_) ?_ ?_; rotate_left; { show Act.put _ (some 23) _ = _; simp only [Act.put, List.setIfInBounds_toArray, List.set_cons_zero, List.set_cons_succ, i64_w, i32_w]; rfl }
 refine pu_ 7 24 m8_ (any_of HT_.out s2_) ?_
 refine pu_ 8 25 m9_ (any_of HT_.out s2_) ?_
 refine last_ (i := 9) (N := none) m10_ rfl rfl (one_of HT_.out s2_) (by decide) (fun K hK => ?_)
 obtain ⟨ce0, ce1, ce2, fe0, fe1, fe2⟩ := P.c3 8 rfl
 have P2 := P.set1 (x := .slice E y2.length e) (cs' := #[.slice E y2.length e, .slice D1 cb.length d1, .slice D2 cc.length d2]) 8 0 rfl rfl
 refine skip_ (w1 := ?_) (by rfl) rfl ?_ ?_; rotate_left; { go_simp; rfl }
 refine hK.out _ _ ?_
 clear hK K P ce0 ce1 ce2 fe0 fe1 fe2
 revert P2; generalize World.setCell _ _ _ = w1; intro P
 refine done_ (done_of HT_.out s2_) ?_
 try go_wp2_with (fail)
 go_roundg k1
 case measure => have := HK.out; omega
 case rel => exact ⟨wrap64 (i + 1), y2, E, e, s1_, HI2, ⟨by have := HK.out; omega⟩, P.pick [0, 1, 2, 3, 4, 5, 6, 7, 8] _ (by decide) rfl⟩
 }
 { rw [if_neg c2] at HI; exact absurd HI (by simp) }
 }
 {
 rw [if_neg c1] at HI
 obtain rfl : h = y := (Option.some.inj HI).symm
 have q1 := decide_eq_false c1
 clear c1
 obtain ⟨ce0, ce1, ce2, fe0, fe1, fe2⟩ := P.c3 1 rfl
 try go_wp2_with (fail)
 go_loopg [30] k (fun kq v w' => ∃ (i : Int) (y : List S63) (B1 : Option Addr) (b1 : Nat), v = .int .i64 i ∧ Aside0 (impl_JoinPresence.l0 kq l1_1 i y = some t) ∧ Aside0 (kq ≤ k) ∧ Pool w w' [rbox g2 #[.slice A0_0 l0_0.length c0_0, .slice A0_1 l0_1.length c0_1, .slice A0_2 l0_2.length c0_2] 27, rbox g3 #[.slice A1_0 l1_0.length c1_0, .slice A1_1 l1_1.length c1_1, .slice A1_2 l1_2.length c1_2] 27, rbox g4 #[.slice none 0 0, .slice none 0 0, .slice none 0 0] 27, rbox gp #[.slice A0_0 l0_0.length c0_0, .slice A0_1 l0_1.length c0_1, .slice A0_2 l0_2.length c0_2] 27, rbox gr #[.slice none 0 0, .slice none 0 0, .slice none 0 0] 27, rrow k63 63 w.heap.size (.slice B0 h.length b0) h, rrow k63 63 w.heap.size (.slice B1 y.length b1) y, rrow k73 73 w.heap.size (.slice D2 cc.length d2) cc, rbox g6 #[.slice B0 h.length b0, .slice B1 y.length b1, .slice D2 cc.length d2] 27])
 case atStart => exact ⟨0, cb, D1, d1, rfl, ⟨ht⟩, ⟨Nat.le_refl _⟩, P.pick [0, 1, 2, 3, 4, 5, 6, 7, 8] _ (by decide) rfl⟩
 case round =>
 clear P
 obtain ⟨i, y, B1, b1, rfl, HA, HK, P⟩ := hrel
 cases gk with
 | zero => exact absurd HA.out (by simp [impl_JoinPresence.l0])
 | succ k1 =>
 have HI := HA.out
 clear HA
 simp only [impl_JoinPresence.l0] at HI
 by_cases c1 : i < (l1_1.length : Int)
 {
 rw [if_pos c1] at HI
 by_cases c2 : 0 ≤ i
 {
 rw [if_pos c2] at HI
 obtain ⟨y2, hy, HI⟩ := Option.bind_eq_some_iff.mp HI
 obtain ⟨ad, ead, hx0, hx1⟩ := at_T63 (Kd.C_below hr1_1 P.1) i c2 c1
 cases ead
 have HI2 := A_ HI
 have hy2 := A_ hy
 clear HI hy
 have q1 := decide_eq_true c1
 have q2 := decide_eq_true c2
 replace c1 := eq_true c1
 replace c2 := eq_true c2
 go_wp2_with (first | ((with_reducible refine gate_dst (N := 7) rfl ?_); (try (refine gate_guard (by rfl) ?_; dsimp only)); refine bx_ 7 #[.int .i64 0, .int .i64 0] 63 ?_; intro g7 hg w1 hbox hb; replace P := P.box hg hbox hb; clear hb hbox hg; obtain ⟨ce0, ce1, fe0, fe1⟩ := P.c2 9 rfl) | ((with_reducible refine gate_store (p := 7) rfl ?_); refine st2 P 9 rfl rfl rfl rfl (by go_simp; rfl) ?_; clear P; intro w1 P))
 replace P := P.drew
 refine start_ (n := 10) (S := fun w' => C3 w' g6 (.slice B0 h.length b0) (.slice B1 y.length b1) (.slice D2 cc.length d2) ∧ C2 w' g7 (.int .i64 ((rd_T63 l1_1 i).f0)) (.int .i64 ((rd_T63 l1_1 i).f1))) (ds := [9]) m0_ s2_ rfl rfl ⟨P.held3 8 rfl, P.held2 9 rfl⟩ (fun hHeld => ?_)
 refine with_tabW impl_JoinPresence.tab9 impl_JoinPresence.bits9 (fun HT_ HW_ => ?_)
 generalize World.drew _ = w1 at P hHeld ⊢
 refine pu_ 0 34 m1_ (any_of HT_.out s2_) ?_
 refine pu_ 1 35 m2_ (any_of HT_.out s2_) ?_
 refine pu_ 2 36 m3_ (any_of HT_.out s2_) ?_
 refine pu_ 3 37 m4_ (any_of HT_.out s2_) ?_
 refine take_ (i := 4) (N := some 38) (v := ?_) (a' := ?_) m5_ rfl rfl (take_ofW HT_.out HW_.out s2_) (fun _ _ _ h => h) (Or.inl ⟨by rfl, ?_⟩) hHeld ?_ ?_
 rotate_left
 { rintro w' ⟨⟨s0, s1, s2⟩, s3, s4⟩; go_simp; with_reducible rfl }
 rotate_left
 · exact p1_
 refine take_ (i := 5) (N := some 39) (v := ?_) (a' := ?_) m6_ rfl rfl (take_ofW HT_.out HW_.out s2_) (fun _ _ _ h => h) (Or.inl ⟨by rfl, ?_⟩) hHeld ?_ ?_
 rotate_left
 { rintro w' ⟨⟨s0, s1, s2⟩, s3, s4⟩; go_simp; with_reducible rfl }
 rotate_left
 · exact p1_
 refine one_ (i := 6) (N := some 40) m7_ rfl rfl (one_of HT_.out s2_) (by decide) (fun K hK => ?_)
 refine goes_ Try.func44 s2_ rfl #[.slice B1 y.length b1, .agg #[.int .i64 ((rd_T63 l1_1 i).f0), .int .i64 ((rd_T63 l1_1 i).f1)]] (by rfl) rfl rfl s3_ ?_
 refine (leasedP k1 y2 _ _ P 6 rfl hy2.out).mono ?_
 clear P
 rintro e_ w1 ⟨E, e, rfl, P⟩
 refine ⟨_, rfl, ?_⟩
 refine hK.out _ _ ⟨P.held3 8 rfl, P.held2 9 rfl⟩ (fun hHeld => ?_)
 clear hK K
 refine norm_ (a' := ?_) ?_ ?_; rotate_left; { show Act.put _ (some 40) _ = _; simp only [Act.put, List.setIfInBounds_toArray, List.set_cons_zero, List.set_cons_succ, i64_w, i32_w]; rfl }
 refine pu_ 7 41 m8_ (any_of HT_.out s2_) ?_
 refine pu_ 8 42 m9_ (any_of HT_.out s2_) ?_
 refine last_ (i := 9) (N := none) m10_ rfl rfl (one_of HT_.out s2_) (by decide) (fun K hK => ?_)
 obtain ⟨ce0, ce1, ce2, fe0, fe1, fe2⟩ := P.c3 8 rfl
 have P2 := P.set1 (x := .slice E y2.length e) (cs' := #[.slice B0 h.length b0, .slice E y2.length e, .slice D2 cc.length d2]) 8 1 rfl rfl
 refine skip_ (w1 := ?_) (by rfl) rfl ?_ ?_; rotate_left; { go_simp; rfl }
 refine hK.out _ _ ?_
 clear hK K P ce0 ce1 ce2 fe0 fe1 fe2
 revert P2; generalize World.setCell _ _ _ = w1; intro P
 refine done_ (done_of HT_.out s2_) ?_
 try go_wp2_with (fail)
 go_roundg k1
 case measure => have := HK.out; omega
 case rel => exact ⟨wrap64 (i + 1), y2, E, e, s1_, HI2, ⟨by have := HK.out; omega⟩, P.pick [0, 1, 2, 3, 4, 5, 6, 7, 8] _ (by decide) rfl⟩
 }
 { rw [if_neg c2] at HI; exact absurd HI (by simp) }
 }
 {
 rw [if_neg c1] at HI
 obtain rfl : t = y := (Option.some.inj HI).symm
 have q1 := decide_eq_false c1
 clear c1
 obtain ⟨ce0, ce1, ce2, fe0, fe1, fe2⟩ := P.c3 1 rfl
 try go_wp2_with (fail)
 go_loopg [47] k (fun kq v w' => ∃ (i : Int) (y : List S73) (B2 : Option Addr) (b2 : Nat), v = .int .i64 i ∧ Aside0 (impl_JoinPresence.l2 kq l1_2 i y = some m) ∧ Aside0 (kq ≤ k) ∧ Pool w w' [rbox g2 #[.slice A0_0 l0_0.length c0_0, .slice A0_1 l0_1.length c0_1, .slice A0_2 l0_2.length c0_2] 27, rbox g3 #[.slice A1_0 l1_0.length c1_0, .slice A1_1 l1_1.length c1_1, .slice A1_2 l1_2.length c1_2] 27, rbox g4 #[.slice none 0 0, .slice none 0 0, .slice none 0 0] 27, rbox gp #[.slice A0_0 l0_0.length c0_0, .slice A0_1 l0_1.length c0_1, .slice A0_2 l0_2.length c0_2] 27, rbox gr #[.slice none 0 0, .slice none 0 0, .slice none 0 0] 27, rrow k63 63 w.heap.size (.slice B0 h.length b0) h, rrow k63 63 w.heap.size (.slice B1 t.length b1) t, rrow k73 73 w.heap.size (.slice B2 y.length b2) y, rbox g6 #[.slice B0 h.length b0, .slice B1 t.length b1, .slice B2 y.length b2] 27])
 case atStart => exact ⟨0, cc, D2, d2, rfl, ⟨hm⟩, ⟨Nat.le_refl _⟩, P.pick [0, 1, 2, 3, 4, 5, 6, 7, 8] _ (by decide) rfl⟩
 case round =>
 clear P
 obtain ⟨i, y, B2, b2, rfl, HA, HK, P⟩ := hrel
 cases gk with
 | zero => exact absurd HA.out (by simp [impl_JoinPresence.l2])
 | succ k1 =>
 have HI := HA.out
 clear HA
 simp only [impl_JoinPresence.l2] at HI
 by_cases c1 : i < (l1_2.length : Int)
 {
 rw [if_pos c1] at HI
 by_cases c2 : 0 ≤ i
 {
 rw [if_pos c2] at HI
 obtain ⟨y2, hy, HI⟩ := Option.bind_eq_some_iff.mp HI
 obtain ⟨ad, ead, hx0, hx1⟩ := at_T73 (Kd.C_below hr1_2 P.1) i c2 c1
 cases ead
 have HI2 := A_ HI
 have hy2 := A_ hy
 clear HI hy
 have q1 := decide_eq_true c1
 have q2 := decide_eq_true c2
 replace c1 := eq_true c1
 replace c2 := eq_true c2
 go_wp2_with (first | ((with_reducible refine gate_dst (N := 9) rfl ?_); (try (refine gate_guard (by rfl) ?_; dsimp only)); refine bx_ 9 #[.int .i64 0, .int .i64 0] 73 ?_; intro g9 hg w1 hbox hb; replace P := P.box hg hbox hb; clear hb hbox hg; obtain ⟨ce0, ce1, fe0, fe1⟩ := P.c2 9 rfl) | ((with_reducible refine gate_store (p := 9) rfl ?_); refine st2 P 9 rfl rfl rfl rfl (by go_simp; rfl) ?_; clear P; intro w1 P))
 replace P := P.drew
 refine start_ (n := 10) (S := fun w' => C3 w' g6 (.slice B0 h.length b0) (.slice B1 t.length b1) (.slice B2 y.length b2) ∧ C2 w' g9 (.int .i64 ((rd_T73 l1_2 i).f0)) (.int .i64 ((rd_T73 l1_2 i).f1))) (ds := [9]) m0_ s2_ rfl rfl ⟨P.held3 8 rfl, P.held2 9 rfl⟩ (fun hHeld => ?_)
 refine with_tabW impl_JoinPresence.tab14 impl_JoinPresence.bits14 (fun HT_ HW_ => ?_)
 generalize World.drew _ = w1 at P hHeld ⊢
 refine pu_ 0 51 m1_ (any_of HT_.out s2_) ?_
 refine pu_ 1 52 m2_ (any_of HT_.out s2_) ?_
 refine pu_ 2 53 m3_ (any_of HT_.out s2_) ?_
 refine pu_ 3 54 m4_ (any_of HT_.out s2_) ?_
 refine take_ (i := 4) (N := some 55) (v := ?_) (a' := ?_) m5_ rfl rfl (take_ofW HT_.out HW_.out s2_) (fun _ _ _ h => h) (Or.inl ⟨by rfl, ?_⟩) hHeld ?_ ?_
 rotate_left
 { rintro w' ⟨⟨s0, s1, s2⟩, s3, s4⟩; go_simp; with_reducible rfl }
 rotate_left
 · exact p1_
 refine take_ (i := 5) (N := some 56) (v := ?_) (a' := ?_) m6_ rfl rfl (take_ofW HT_.out HW_.out s2_) (fun _ _ _ h => h) (Or.inl ⟨by rfl, ?_⟩) hHeld ?_ ?_
 rotate_left
 { rintro w' ⟨⟨s0, s1, s2⟩, s3, s4⟩; go_simp; with_reducible rfl }
 rotate_left
 · exact p1_
 refine one_ (i := 6) (N := some 57) m7_ rfl rfl (one_of HT_.out s2_) (by decide) (fun K hK => ?_)
 refine goes_ Try.func78 s2_ rfl #[.slice B2 y.length b2, .agg #[.int .i64 ((rd_T73 l1_2 i).f0), .int .i64 ((rd_T73 l1_2 i).f1)]] (by rfl) rfl rfl s3_ ?_
 refine (markedP k1 y2 _ _ P 7 rfl hy2.out).mono ?_
 clear P
 rintro e_ w1 ⟨E, e, rfl, P⟩
 refine ⟨_, rfl, ?_⟩
 refine hK.out _ _ ⟨P.held3 8 rfl, P.held2 9 rfl⟩ (fun hHeld => ?_)
 clear hK K
 refine norm_ (a' := ?_) ?_ ?_; rotate_left; { show Act.put _ (some 57) _ = _; simp only [Act.put, List.setIfInBounds_toArray, List.set_cons_zero, List.set_cons_succ, i64_w, i32_w]; rfl }
 refine pu_ 7 58 m8_ (any_of HT_.out s2_) ?_
 refine pu_ 8 59 m9_ (any_of HT_.out s2_) ?_
 refine last_ (i := 9) (N := none) m10_ rfl rfl (one_of HT_.out s2_) (by decide) (fun K hK => ?_)
 obtain ⟨ce0, ce1, ce2, fe0, fe1, fe2⟩ := P.c3 8 rfl
 have P2 := P.set1 (x := .slice E y2.length e) (cs' := #[.slice B0 h.length b0, .slice B1 t.length b1, .slice E y2.length e]) 8 2 rfl rfl
 refine skip_ (w1 := ?_) (by rfl) rfl ?_ ?_; rotate_left; { go_simp; rfl }
 refine hK.out _ _ ?_
 clear hK K P ce0 ce1 ce2 fe0 fe1 fe2
 revert P2; generalize World.setCell _ _ _ = w1; intro P
 refine done_ (done_of HT_.out s2_) ?_
 try go_wp2_with (fail)
 go_roundg k1
 case measure => have := HK.out; omega
 case rel => exact ⟨wrap64 (i + 1), y2, E, e, s1_, HI2, ⟨by have := HK.out; omega⟩, P.pick [0, 1, 2, 3, 4, 5, 6, 7, 8] _ (by decide) rfl⟩
 }
 { rw [if_neg c2] at HI; exact absurd HI (by simp) }
 }
 {
 rw [if_neg c1] at HI
 obtain rfl : m = y := (Option.some.inj HI).symm
 have q1 := decide_eq_false c1
 clear c1
 obtain ⟨ce0, ce1, ce2, fe0, fe1, fe2⟩ := P.c3 8 rfl
 cases g with
 | true =>
   obtain ⟨rfl, rfl, rfl, rfl⟩ : h = r1 ∧ t = r2 ∧ m = r3 ∧ true = r4 := by simpa using H
   try go_wp2_with (first | (go_at_call 19; refine (validR k true P 5 6 7 rfl rfl rfl hg).mono ?_; clear P; rintro e w1 ⟨rfl, P⟩; obtain ⟨ce0, ce1, ce2, fe0, fe1, fe2⟩ := P.c3 8 rfl; obtain ⟨ce0b, ce1b, ce2b, fe0b, fe1b, fe2b⟩ := P.c3 4 rfl) | ((with_reducible refine gate_store (p := 4) rfl ?_); refine st3 P 4 rfl rfl rfl rfl (by go_simp; rfl) ?_; clear P; intro w1 P; obtain ⟨ce0, ce1, ce2, fe0, fe1, fe2⟩ := P.c3 2 rfl))
   (try simp only [Exit.inBlock, Exit.then])
   refine bodyPost_ret (results_ct rfl _ _ gr 27 #[.slice B0 h.length b0, .slice B1 t.length b1, .slice B2 m.length b2] (0, 0) _ rfl (P.cell 4 rfl) Try.underlying27 rfl s2_) rfl ?_
   (try simp only [])
   try go_wp2_with (first | ((with_reducible refine gate_store (p := 4) rfl ?_); refine st3 P 2 rfl rfl rfl rfl (by go_simp; rfl) ?_; clear P; intro w1 P))
   refine bodyPost_ret (results_ct rfl _ _ g4 27 #[.slice B0 h.length b0, .slice B1 t.length b1, .slice B2 m.length b2] (0, 0) _ rfl (P.cell 2 rfl) Try.underlying27 rfl s2_) rfl ?_
   exact ⟨_, _, _, _, _, _, rfl, Pool.tri (P.pick [5, 6, 7] _ (by decide) rfl)⟩
 | false =>
   obtain ⟨rfl, rfl, rfl, rfl⟩ : [] = r1 ∧ [] = r2 ∧ [] = r3 ∧ false = r4 := by simpa using H
   try go_wp2_with (first | (go_at_call 19; refine (validR k false P 5 6 7 rfl rfl rfl hg).mono ?_; clear P; rintro e w1 ⟨rfl, P⟩; obtain ⟨ce0, ce1, ce2, fe0, fe1, fe2⟩ := P.c3 8 rfl; obtain ⟨ce0b, ce1b, ce2b, fe0b, fe1b, fe2b⟩ := P.c3 4 rfl) | ((with_reducible refine gate_store (p := 4) rfl ?_); refine st3 P 4 rfl rfl rfl rfl (by go_simp; rfl) ?_; clear P; intro w1 P; obtain ⟨ce0, ce1, ce2, fe0, fe1, fe2⟩ := P.c3 2 rfl))
   (try simp only [Exit.inBlock, Exit.then])
   refine bodyPost_ret (results_ct rfl _ _ gr 27 #[.slice none 0 0, .slice none 0 0, .slice none 0 0] (0, 0) _ rfl (P.cell 4 rfl) Try.underlying27 rfl s2_) rfl ?_
   (try simp only [])
   try go_wp2_with (first | ((with_reducible refine gate_store (p := 4) rfl ?_); refine st3 P 2 rfl rfl rfl rfl (by go_simp; rfl) ?_; clear P; intro w1 P))
   refine bodyPost_ret (results_ct rfl _ _ g4 27 #[.slice none 0 0, .slice none 0 0, .slice none 0 0] (0, 0) _ rfl (P.cell 2 rfl) Try.underlying27 rfl s2_) rfl ?_
   exact ⟨_, _, _, _, _, _, rfl, P.nil3 _ _ _ rfl rfl rfl⟩
 }
 }
 }

end Go.Proofs.Ytgfilednbllkmaa.QFnJoinedPresence
