-- written by a program of this session, on the lines of the kit's print
import Derived.Test.YtgfilednbllkmaaQFnExactJoinPresencex0
import Derived.Test.YtgfilednbllkmaaQFnExactJoinPresencex1
import Derived.Test.YtgfilednbllkmaaQFnExactJoinPresencex2
import Derived.Test.YtgfilednbllkmaaQFnExactJoinPresencex3
import Derived.Test.YtgfilednbllkmaaQFnExactJoinPresencex8
import Derived.Test.YtgfilednbllkmaaQFnExactJoinPresencex12
import Derived.Test.YtgfilednbllkmaaPl
namespace Go.Proofs.Ytgfilednbllkmaa.QFnExactJoinPresence
open Go.RowKit Go.Proofs.YtgfilednbllkmaaW.PrintWords Go.Proofs.YtgfilednbllkmaaW.PrintLast Go.Proofs.YtgfilednbllkmaaW.PrintMore
attribute [local go_sem] max2_int min2_int max_two min_two max_three min_three max_four min_four   -- for this text's walks alone
set_option linter.unusedVariables false
set_option linter.unusedSimpArgs false

abbrev laws_FnExactJoinPresence.T : Bool := true
abbrev laws_FnExactJoinPresence.F : Bool := false
abbrev laws_FnExactJoinPresence.m0_ : Array Bool := #[F,F,F,F,F,F,F,F,F,F,F]
abbrev laws_FnExactJoinPresence.m1_ : Array Bool := #[T,F,F,F,F,F,F,F,F,F,F]
abbrev laws_FnExactJoinPresence.m2_ : Array Bool := #[T,F,T,F,F,F,F,F,F,F,F]
abbrev laws_FnExactJoinPresence.m3_ : Array Bool := #[T,T,T,T,T,T,T,T,T,F,F]
abbrev laws_FnExactJoinPresence.m4_ : Array Bool := #[T,T,T,F,F,F,F,F,F,F,F]
abbrev laws_FnExactJoinPresence.m5_ : Array Bool := #[T,F,T,F,F,F,F,F,T,F,F]
abbrev laws_FnExactJoinPresence.m6_ : Array Bool := #[T,T,T,T,F,F,F,F,F,F,F]
abbrev laws_FnExactJoinPresence.m7_ : Array Bool := #[T,T,T,F,F,F,F,F,T,F,F]
abbrev laws_FnExactJoinPresence.m8_ : Array Bool := #[T,T,T,T,T,F,F,F,F,F,F]
abbrev laws_FnExactJoinPresence.m9_ : Array Bool := #[T,T,T,T,F,F,F,F,T,F,F]
abbrev laws_FnExactJoinPresence.m10_ : Array Bool := #[T,T,T,T,T,T,F,F,F,F,F]
abbrev laws_FnExactJoinPresence.m11_ : Array Bool := #[T,T,T,T,T,T,T,F,F,F,F]
abbrev laws_FnExactJoinPresence.m12_ : Array Bool := #[T,T,T,T,T,T,T,T,F,F,F]
abbrev laws_FnExactJoinPresence.m13_ : Array Bool := #[T,T,T,T,T,F,F,F,T,F,F]
abbrev laws_FnExactJoinPresence.m14_ : Array Bool := #[T,T,T,T,T,T,F,F,T,F,F]
abbrev laws_FnExactJoinPresence.m15_ : Array Bool := #[T,T,T,T,T,T,T,F,T,F,F]
abbrev laws_FnExactJoinPresence.m16_ : Array Bool := #[T,T,T,T,T,T,T,T,T,T,F]
abbrev laws_FnExactJoinPresence.m17_ : Array Bool := #[T,T,T,T,T,T,T,T,T,T,T]
def laws_FnExactJoinPresence.T8 : Bool × List (List Nat × List Nat) := (true, [([], []), ([0], [0]), ([], []), ([2, 1], [2]), ([1, 3, 3], [1, 3]), ([4], [4]), ([5], [5]), ([5], [5]), ([], []), ([8, 6, 4, 0, 1, 2, 3, 4, 5, 6, 8], [6, 8]), ([7, 9, 0, 1, 2, 3, 4, 5, 6, 7, 8, 9], [7])])
def laws_FnExactJoinPresence.B8 : List Nat := [0, 1, 0, 7, 15, 31, 63, 63, 0, 383, 1023]
theorem laws_FnExactJoinPresence.tab8 : rtab .any (opsOf Try.f9 8) = laws_FnExactJoinPresence.T8 := by kernel_rfl
theorem laws_FnExactJoinPresence.bits8 : waitsOk laws_FnExactJoinPresence.T8.2 laws_FnExactJoinPresence.B8 = true := by kernel_rfl
def laws_FnExactJoinPresence.T31 : Bool × List (List Nat × List Nat) := (true, [([], []), ([0], [0]), ([], []), ([2, 1], [2]), ([1, 3, 3], [1, 3]), ([4], [4]), ([5], [5]), ([5], [5]), ([], []), ([8, 6, 4, 0, 1, 2, 3, 4, 5, 6, 8], [6, 8]), ([7, 9, 0, 1, 2, 3, 4, 5, 6, 7, 8, 9], [7])])
def laws_FnExactJoinPresence.B31 : List Nat := [0, 1, 0, 7, 15, 31, 63, 63, 0, 383, 1023]
theorem laws_FnExactJoinPresence.tab31 : rtab .any (opsOf Try.f9 31) = laws_FnExactJoinPresence.T31 := by kernel_rfl
theorem laws_FnExactJoinPresence.bits31 : waitsOk laws_FnExactJoinPresence.T31.2 laws_FnExactJoinPresence.B31 = true := by kernel_rfl
section
variable {w0 w w1 : World} {L : List Res} {A0 A1 A2 B0 B1 B2 : Option Addr} {n0 n1 n2 m0 m1 m2 c0 c1 c2 d0 d1 d2 : Nat} {a b x y : List S63} {c z : List S73}
theorem szP {l0 l1 : List S108} {l2 : List S110} (s t : Int) (P : Pool w0 w L) (hr0 : Kd.C k108 w0 A0 l0.length l0) (hc0 : l0.length ≤ c0) (hr1 : Kd.C k108 w0 A1 l1.length l1) (hc1 : l1.length ≤ c1) (hr2 : Kd.C k110 w0 A2 l2.length l2) (hc2 : l2.length ≤ c2) (h : laws_szPresence.f l0 l1 l2 s = some t) :
    Calls Try.prog 24 #[.agg #[.slice A0 l0.length c0, .slice A1 l1.length c1, .slice A2 l2.length c2], .int .i64 s] w fun e w' => e = .returned (.int .i64 t) ∧ Pool w0 w' L := by
  refine (laws_szPresence.calls _ _ l0 _ _ l1 _ _ l2 s t w (Kd.C_below hr0 P.1) hc0 (Kd.C_below hr1 P.1) hc1 (Kd.C_below hr2 P.1) hc2 h).mono ?_
  rintro e w' ⟨rfl, hb⟩
  exact ⟨rfl, P.below hb⟩
theorem toP {l0 l1 : List S108} {l2 : List S110} (k : Nat) (a b : List S63) (c : List S73) (P : Pool w0 w L) (hr0 : Kd.C k108 w0 A0 l0.length l0) (hc0 : l0.length ≤ c0) (hr1 : Kd.C k108 w0 A1 l1.length l1) (hc1 : l1.length ≤ c1) (hr2 : Kd.C k110 w0 A2 l2.length l2) (hc2 : l2.length ≤ c2) (h : laws_toPresence.f k l0 l1 l2 = some (a, b, c)) :
    Calls Try.prog 26 #[.agg #[.slice A0 l0.length c0, .slice A1 l1.length c1, .slice A2 l2.length c2]] w fun e w' => ∃ B0 d0 B1 d1 B2 d2, e = .returned (.agg #[.slice B0 a.length d0, .slice B1 b.length d1, .slice B2 c.length d2]) ∧ Pool w0 w' (L ++ [rp w0.heap.size B0 a.length d0 a B1 b.length d1 b B2 c.length d2 c]) := by
  refine (laws_toPresence.calls k _ _ l0 _ _ l1 _ _ l2 a b c w (Kd.C_below hr0 P.1) hc0 (Kd.C_below hr1 P.1) hc1 (Kd.C_below hr2 P.1) hc2 h).mono ?_
  rintro e w' ⟨v0, v1, v2, rfl, h0, h1, h2, hb⟩
  obtain ⟨B0, d0, B1, d1, B2, d2, rfl, rfl, rfl, hP⟩ := rp_new P hb h0 h1 h2 (fun _ hk => hk)
  exact ⟨B0, d0, B1, d1, B2, d2, rfl, hP⟩
theorem eqP (k : Nat) (r : Bool) (P : Pool w0 w L) (i j : Nat) (hi : L[i]? = some (rp w0.heap.size A0 n0 c0 a A1 n1 c1 b A2 n2 c2 c)) (hj : L[j]? = some (rp w0.heap.size B0 m0 d0 x B1 m1 d1 y B2 m2 d2 z)) (h : laws_eqPresence.f k a b c x y z = some r) :
    Calls Try.prog 27 #[.agg #[.slice A0 n0 c0, .slice A1 n1 c1, .slice A2 n2 c2], .agg #[.slice B0 m0 d0, .slice B1 m1 d1, .slice B2 m2 d2]] w fun e w' => e = .returned (.bool r) ∧ Pool w0 w' L := by
  obtain ⟨rfl, rfl, rfl⟩ := rp_at P i hi
  obtain ⟨rfl, rfl, rfl⟩ := rp_at P j hj
  have h1 := rp_c P i hi
  have h2 := rp_c P j hj
  refine (laws_eqPresence.calls k _ _ a _ _ b _ _ c _ _ x _ _ y _ _ z r w h1.1 h1.2.1 h1.2.2.1 h1.2.2.2.1 h1.2.2.2.2.1 h1.2.2.2.2.2 h2.1 h2.2.1 h2.2.2.1 h2.2.2.2.1 h2.2.2.2.2.1 h2.2.2.2.2.2 h).mono ?_
  rintro e w' ⟨rfl, hb⟩
  exact ⟨rfl, P.below hb⟩
theorem heldP (k : Nat) (q r : Int) (P : Pool w0 w L) (i : Nat) (hi : L[i]? = some (rp w0.heap.size A0 n0 c0 a A1 n1 c1 b A2 n2 c2 c)) (h : laws_heldPresence.f k a b c q = some r) :
    Calls Try.prog 29 #[.agg #[.slice A0 n0 c0, .slice A1 n1 c1, .slice A2 n2 c2], .int .i64 q] w fun e w' => e = .returned (.int .i64 r) ∧ Pool w0 w' L := by
  obtain ⟨rfl, rfl, rfl⟩ := rp_at P i hi
  have h1 := rp_c P i hi
  refine (laws_heldPresence.calls k _ _ a _ _ b _ _ c q r w h1.1 h1.2.1 h1.2.2.1 h1.2.2.2.1 h1.2.2.2.2.1 h1.2.2.2.2.2 h).mono ?_
  rintro e w' ⟨rfl, hb⟩
  exact ⟨rfl, P.below hb⟩
theorem markP (k : Nat) (q r : Int) (x y : List S63) (z : List S73) (P : Pool w0 w L) (i : Nat) (hi : L[i]? = some (rp w0.heap.size A0 n0 c0 a A1 n1 c1 b A2 n2 c2 c)) (h : laws_markPresence.f k a b c q = some (r, x, y, z)) :
    Calls Try.prog 28 #[.agg #[.slice A0 n0 c0, .slice A1 n1 c1, .slice A2 n2 c2], .int .i64 q] w fun e w' => e = .returned (.int .i64 r) ∧ Pool w0 w' (L.set i (rp w0.heap.size A0 n0 c0 x A1 n1 c1 y A2 n2 c2 z)) := by
  obtain ⟨ok, h0, h1, h2, hd⟩ := P.get i _ hi
  refine (laws_markPresence.calls k (fun k_ => some k_ = (.slice A0 n0 c0 : Value).ownBlock) (.slice A0 n0 c0) a (fun k_ => some k_ = (.slice A1 n1 c1 : Value).ownBlock) (.slice A1 n1 c1) b (fun k_ => some k_ = (.slice A2 n2 c2 : Value).ownBlock) (.slice A2 n2 c2) c q r x y z w0 w P.1 (Kd.R_tight rfl h0) (fun k_ e_ => hd k_ e_) (Kd.R_tight rfl h1) (fun k_ e_ e2_ => hd k_ e2_ e_) (Kd.R_tight rfl h2) h).mono ?_
  rintro e w' ⟨rfl, g0, g1, g2, hb, hk⟩
  refine ⟨rfl, P.turn i _ _ hi (fun k_ => some k_ = (.slice A0 n0 c0 : Value).ownBlock ∨ some k_ = (.slice A1 n1 c1 : Value).ownBlock ∨ some k_ = (.slice A2 n2 c2 : Value).ownBlock) hb ⟨hk.1, fun k_ hlt hn => hk.2 k_ hlt hn⟩ (fun ok' hok => ?_) (fun ok' hF k_ hk_ => ?_)⟩
  · exact ⟨Kd.R_mono (Kd.R_tight rfl g0) (fun k_ e_ => ⟨hok k_ (.inl e_), e_⟩), Kd.R_mono (Kd.R_tight rfl g1) (fun k_ e_ => ⟨hok k_ (.inr (.inl e_)), e_⟩), Kd.R_mono (Kd.R_tight rfl g2) (fun k_ e_ => ⟨hok k_ (.inr (.inr e_)), e_⟩), hd⟩
  · rcases hk_ with e_ | e_ | e_
    · exact (hF.1.1 k_ e_.symm).1
    · exact (hF.2.1.1 k_ e_.symm).1
    · exact (hF.2.2.1.1 k_ e_.symm).1
theorem specJ (k : Nat) (r1 r2 : List S63) (r3 : List S73) (r4 : Bool) (P : Pool w0 w L) (i j : Nat) (hi : L[i]? = some (rp w0.heap.size A0 n0 c0 a A1 n1 c1 b A2 n2 c2 c)) (hj : L[j]? = some (rp w0.heap.size B0 m0 d0 x B1 m1 d1 y B2 m2 d2 z)) (h : spec_JoinPresence.f k a b c x y z = some (r1, r2, r3, r4)) :
    Calls Try.prog 36 #[.agg #[.slice A0 n0 c0, .slice A1 n1 c1, .slice A2 n2 c2], .agg #[.slice B0 m0 d0, .slice B1 m1 d1, .slice B2 m2 d2]] w fun e w' => ∃ D0 e0 D1 e1 D2 e2, e = .returned (.tuple #[.agg #[.slice D0 r1.length e0, .slice D1 r2.length e1, .slice D2 r3.length e2], .bool r4]) ∧ Pool w0 w' (L ++ [rp w0.heap.size D0 r1.length e0 r1 D1 r2.length e1 r2 D2 r3.length e2 r3]) := by
  obtain ⟨rfl, rfl, rfl⟩ := rp_at P i hi
  obtain ⟨rfl, rfl, rfl⟩ := rp_at P j hj
  have h1 := rp_c P i hi
  have h2 := rp_c P j hj
  refine (spec_JoinPresence.calls k _ _ a _ _ b _ _ c _ _ x _ _ y _ _ z r1 r2 r3 r4 w h1.1 h1.2.1 h1.2.2.1 h1.2.2.2.1 h1.2.2.2.2.1 h1.2.2.2.2.2 h2.1 h2.2.1 h2.2.2.1 h2.2.2.2.1 h2.2.2.2.2.1 h2.2.2.2.2.2 h).mono ?_
  rintro e w' ⟨v0, v1, v2, rfl, g0, g1, g2, hb⟩
  obtain ⟨D0, e0, D1, e1, D2, e2, rfl, rfl, rfl, hP⟩ := rp_new P hb g0 g1 g2 (fun _ hk => hk)
  exact ⟨D0, e0, D1, e1, D2, e2, rfl, hP⟩
theorem implJ (k : Nat) (r1 r2 : List S63) (r3 : List S73) (r4 : Bool) (P : Pool w0 w L) (i j : Nat) (hi : L[i]? = some (rp w0.heap.size A0 n0 c0 a A1 n1 c1 b A2 n2 c2 c)) (hj : L[j]? = some (rp w0.heap.size B0 m0 d0 x B1 m1 d1 y B2 m2 d2 z)) (h : impl_JoinPresence.f k a b c x y z = some (r1, r2, r3, r4)) :
    Calls Try.prog 37 #[.agg #[.slice A0 n0 c0, .slice A1 n1 c1, .slice A2 n2 c2], .agg #[.slice B0 m0 d0, .slice B1 m1 d1, .slice B2 m2 d2]] w fun e w' => ∃ D0 e0 D1 e1 D2 e2, e = .returned (.tuple #[.agg #[.slice D0 r1.length e0, .slice D1 r2.length e1, .slice D2 r3.length e2], .bool r4]) ∧ Pool w0 w' (L ++ [rp w0.heap.size D0 r1.length e0 r1 D1 r2.length e1 r2 D2 r3.length e2 r3]) := by
  obtain ⟨rfl, rfl, rfl⟩ := rp_at P i hi
  obtain ⟨rfl, rfl, rfl⟩ := rp_at P j hj
  have h1 := rp_c P i hi
  have h2 := rp_c P j hj
  refine (impl_JoinPresence.pool k _ _ a _ _ b _ _ c _ _ x _ _ y _ _ z r1 r2 r3 r4 w h1.1 h1.2.1 h1.2.2.1 h1.2.2.2.1 h1.2.2.2.2.1 h1.2.2.2.2.2 h2.1 h2.2.1 h2.2.2.1 h2.2.2.2.1 h2.2.2.2.2.1 h2.2.2.2.2.2 h).mono ?_
  rintro e w' ⟨D0, e0, D1, e1, D2, e2, rfl, Q⟩
  exact ⟨D0, e0, D1, e1, D2, e2, rfl, P.lift3 Q⟩
end
/-- What all that the law calls answers, where it ends well. -/
def laws_FnExactJoinPresence.Ans (k : Nat) (l0_0 l0_1 : List (S108)) (l0_2 : List (S110)) (l1_0 l1_1 : List (S108)) (l1_2 : List (S110)) : Prop :=
  ∃ t, laws_szPresence.f l0_0 l0_1 l0_2 1048576 = some t ∧ (t < 0 ∨ ¬ t < 0 ∧ ∃ u, laws_szPresence.f l1_0 l1_1 l1_2 t = some u ∧ (u < 0 ∨ ¬ u < 0 ∧ ∃ a b c x y z r1 r2 r3 rb s a1 b1 c1 v x1 y1 z1 q1 s1 s2 s3,
    laws_toPresence.f k l0_0 l0_1 l0_2 = some (a, b, c) ∧ laws_toPresence.f k l1_0 l1_1 l1_2 = some (x, y, z) ∧ spec_JoinPresence.f k a b c x y z = some (r1, r2, r3, rb) ∧ impl_JoinPresence.f k a b c x y z = some (r1, r2, r3, rb) ∧
    laws_eqPresence.f k r1 r2 r3 r1 r2 r3 = some true ∧ laws_eqPresence.f k a b c a b c = some true ∧ laws_eqPresence.f k x y z x y z = some true ∧ laws_markPresence.f k a b c 1 = some (s, a1, b1, c1) ∧ laws_markPresence.f k x y z s = some (v, x1, y1, z1) ∧ ¬ v < 0 ∧
    laws_markPresence.f k r1 r2 r3 1 = some (q1, s1, s2, s3) ∧ laws_heldPresence.f k s1 s2 s3 1 = some q1 ∧ ¬ q1 < 0))
def laws_FnExactJoinPresence.Pure : Prop := ∀ (l0_0 : List (S108)) (l0_1 : List (S108)) (l0_2 : List (S110)) (l1_0 : List (S108)) (l1_1 : List (S108)) (l1_2 : List (S110)), (l0_0.length ≤ maxLen ∧ l0_0.length * 16 ≤ 140737488351232 ∧ ∀ y0_ ∈ l0_0, fit108 y0_) → (l0_1.length ≤ maxLen ∧ l0_1.length * 16 ≤ 140737488351232 ∧ ∀ y0_ ∈ l0_1, fit108 y0_) → (l0_2.length ≤ maxLen ∧ l0_2.length * 16 ≤ 140737488351232 ∧ ∀ y0_ ∈ l0_2, fit110 y0_) → (l1_0.length ≤ maxLen ∧ l1_0.length * 16 ≤ 140737488351232 ∧ ∀ y0_ ∈ l1_0, fit108 y0_) → (l1_1.length ≤ maxLen ∧ l1_1.length * 16 ≤ 140737488351232 ∧ ∀ y0_ ∈ l1_1, fit108 y0_) → (l1_2.length ≤ maxLen ∧ l1_2.length * 16 ≤ 140737488351232 ∧ ∀ y0_ ∈ l1_2, fit110 y0_) → ∃ k, laws_FnExactJoinPresence.Ans k l0_0 l0_1 l0_2 l1_0 l1_1 l1_2
set_option maxHeartbeats 40000000 in
set_option maxRecDepth 100000 in
theorem laws_FnExactJoinPresence.walk (Pr : laws_FnExactJoinPresence.Pure) (A0_0 : Option Addr) (c0_0 : Nat) (l0_0 : List (S108)) (A0_1 : Option Addr) (c0_1 : Nat) (l0_1 : List (S108)) (A0_2 : Option Addr) (c0_2 : Nat) (l0_2 : List (S110)) (A1_0 : Option Addr) (c1_0 : Nat) (l1_0 : List (S108)) (A1_1 : Option Addr) (c1_1 : Nat) (l1_1 : List (S108)) (A1_2 : Option Addr) (c1_2 : Nat) (l1_2 : List (S110)) (w : World) (hr0_0 : Kd.C k108 w A0_0 l0_0.length l0_0) (hc0_0 : l0_0.length ≤ c0_0) (hr0_1 : Kd.C k108 w A0_1 l0_1.length l0_1) (hc0_1 : l0_1.length ≤ c0_1) (hr0_2 : Kd.C k110 w A0_2 l0_2.length l0_2) (hc0_2 : l0_2.length ≤ c0_2) (hr1_0 : Kd.C k108 w A1_0 l1_0.length l1_0) (hc1_0 : l1_0.length ≤ c1_0) (hr1_1 : Kd.C k108 w A1_1 l1_1.length l1_1) (hc1_1 : l1_1.length ≤ c1_1) (hr1_2 : Kd.C k110 w A1_2 l1_2.length l1_2) (hc1_2 : l1_2.length ≤ c1_2) (F0_0 : l0_0.length ≤ maxLen ∧ l0_0.length * 16 ≤ 140737488351232 ∧ ∀ y0_ ∈ l0_0, fit108 y0_) (F0_1 : l0_1.length ≤ maxLen ∧ l0_1.length * 16 ≤ 140737488351232 ∧ ∀ y0_ ∈ l0_1, fit108 y0_) (F0_2 : l0_2.length ≤ maxLen ∧ l0_2.length * 16 ≤ 140737488351232 ∧ ∀ y0_ ∈ l0_2, fit110 y0_) (F1_0 : l1_0.length ≤ maxLen ∧ l1_0.length * 16 ≤ 140737488351232 ∧ ∀ y0_ ∈ l1_0, fit108 y0_) (F1_1 : l1_1.length ≤ maxLen ∧ l1_1.length * 16 ≤ 140737488351232 ∧ ∀ y0_ ∈ l1_1, fit108 y0_) (F1_2 : l1_2.length ≤ maxLen ∧ l1_2.length * 16 ≤ 140737488351232 ∧ ∀ y0_ ∈ l1_2, fit110 y0_) :
    Calls Try.prog 9 #[.agg #[.slice A0_0 l0_0.length c0_0, .slice A0_1 l0_1.length c0_1, .slice A0_2 l0_2.length c0_2], .agg #[.slice A1_0 l1_0.length c1_0, .slice A1_1 l1_1.length c1_1, .slice A1_2 l1_2.length c1_2]] w fun e w' => e = .returned (.bool true) ∧ Below w.heap.size w w' := by
 obtain ⟨k, H⟩ := Pr l0_0 l0_1 l0_2 l1_0 l1_1 l1_2 F0_0 F0_1 F0_2 F1_0 F1_1 F1_2
 clear Pr F0_0 F0_1 F0_2 F1_0 F1_1 F1_2
 have hu45 := Try.underlying45
 have hu27 := Try.underlying27
 have P := Pool.nil w
 obtain ⟨t, hA, hA2⟩ := H
 rcases hA2 with hA2 | ⟨hA2, u, hB, hB2⟩
 · have q := decide_eq_true hA2
   clear hA2
   go_enter Try.func9, Try.ntmps9
   go_wp2_with (first | ((with_reducible refine gate_dst (N := 2) rfl ?_); refine bx_ 2 #[.slice A0_0 l0_0.length c0_0, .slice A0_1 l0_1.length c0_1, .slice A0_2 l0_2.length c0_2] 45 ?_; intro g2 hg w1 hbox hb; replace P := P.box hg hbox hb; clear hb hbox hg) | ((with_reducible refine gate_dst (N := 3) rfl ?_); refine bx_ 3 #[.slice A1_0 l1_0.length c1_0, .slice A1_1 l1_1.length c1_1, .slice A1_2 l1_2.length c1_2] 45 ?_; intro g3 hg w1 hbox hb; replace P := P.box hg hbox hb; clear hb hbox hg; obtain ⟨ce0, ce1, ce2, fe0, fe1, fe2⟩ := P.c3 0 rfl) | ((with_reducible refine gate_callee (f := 24) rfl ?_); refine goesL_ (some 19) rfl rfl Try.func24 s2_ rfl #[.agg #[.slice A0_0 l0_0.length c0_0, .slice A0_1 l0_1.length c0_1, .slice A0_2 l0_2.length c0_2], .int .i64 1048576] rfl s3_ ?_; refine (szP 1048576 t P hr0_0 hc0_0 hr0_1 hc0_1 hr0_2 hc0_2 hA).mono ?_; clear P; rintro e w1 ⟨rfl, P⟩; refine ⟨_, rfl, ?_⟩; obtain ⟨ce0, ce1, ce2, fe0, fe1, fe2⟩ := P.c3 1 rfl))
   go_ret
   exact ⟨rfl, P.1⟩
 have q := decide_eq_false hA2
 clear hA2
 rcases hB2 with hB2 | ⟨hB2, a, b, c, x, y, z, r1, r2, r3, rb, s, a1, b1, c1, v, x1, y1, z1, q1, s1, s2, s3, hTA, hTB, hS, hI, hE, hEA, hEB, hMA, hMB, hv, hMR, hH, hq⟩
 · have q2 := decide_eq_true hB2
   clear hB2
   go_enter Try.func9, Try.ntmps9
   go_wp2_with (first | ((with_reducible refine gate_dst (N := 2) rfl ?_); refine bx_ 2 #[.slice A0_0 l0_0.length c0_0, .slice A0_1 l0_1.length c0_1, .slice A0_2 l0_2.length c0_2] 45 ?_; intro g2 hg w1 hbox hb; replace P := P.box hg hbox hb; clear hb hbox hg) | ((with_reducible refine gate_dst (N := 3) rfl ?_); refine bx_ 3 #[.slice A1_0 l1_0.length c1_0, .slice A1_1 l1_1.length c1_1, .slice A1_2 l1_2.length c1_2] 45 ?_; intro g3 hg w1 hbox hb; replace P := P.box hg hbox hb; clear hb hbox hg; obtain ⟨ce0, ce1, ce2, fe0, fe1, fe2⟩ := P.c3 0 rfl) | ((with_reducible refine gate_callee (f := 24) rfl ?_); refine goesL_ (some 19) rfl rfl Try.func24 s2_ rfl #[.agg #[.slice A0_0 l0_0.length c0_0, .slice A0_1 l0_1.length c0_1, .slice A0_2 l0_2.length c0_2], .int .i64 1048576] rfl s3_ ?_; refine (szP 1048576 t P hr0_0 hc0_0 hr0_1 hc0_1 hr0_2 hc0_2 hA).mono ?_; clear P; rintro e w1 ⟨rfl, P⟩; refine ⟨_, rfl, ?_⟩; obtain ⟨ce0, ce1, ce2, fe0, fe1, fe2⟩ := P.c3 1 rfl) | ((with_reducible refine gate_callee (f := 24) rfl ?_); refine goesL_ (some 24) rfl rfl Try.func24 s2_ rfl #[.agg #[.slice A1_0 l1_0.length c1_0, .slice A1_1 l1_1.length c1_1, .slice A1_2 l1_2.length c1_2], .int .i64 t] rfl s3_ ?_; refine (szP t u P hr1_0 hc1_0 hr1_1 hc1_1 hr1_2 hc1_2 hB).mono ?_; clear P; rintro e w1 ⟨rfl, P⟩; refine ⟨_, rfl, ?_⟩; obtain ⟨ce0, ce1, ce2, fe0, fe1, fe2⟩ := P.c3 0 rfl))
   go_ret
   exact ⟨rfl, P.1⟩
 have q2 := decide_eq_false hB2
 clear hB2
 have qv := decide_eq_false hv
 have qq := decide_eq_false hq
 clear hv hq
 go_enter Try.func9, Try.ntmps9
 try go_wp2_with (first | ((with_reducible refine gate_dst (N := 2) rfl ?_); refine bx_ 2 #[.slice A0_0 l0_0.length c0_0, .slice A0_1 l0_1.length c0_1, .slice A0_2 l0_2.length c0_2] 45 ?_; intro g2 hg w1 hbox hb; replace P := P.box hg hbox hb; clear hb hbox hg) | ((with_reducible refine gate_dst (N := 3) rfl ?_); refine bx_ 3 #[.slice A1_0 l1_0.length c1_0, .slice A1_1 l1_1.length c1_1, .slice A1_2 l1_2.length c1_2] 45 ?_; intro g3 hg w1 hbox hb; replace P := P.box hg hbox hb; clear hb hbox hg; obtain ⟨ce0, ce1, ce2, fe0, fe1, fe2⟩ := P.c3 0 rfl) | ((with_reducible refine gate_callee (f := 24) rfl ?_); refine goesL_ (some 19) rfl rfl Try.func24 s2_ rfl #[.agg #[.slice A0_0 l0_0.length c0_0, .slice A0_1 l0_1.length c0_1, .slice A0_2 l0_2.length c0_2], .int .i64 1048576] rfl s3_ ?_; refine (szP 1048576 t P hr0_0 hc0_0 hr0_1 hc0_1 hr0_2 hc0_2 hA).mono ?_; clear P; rintro e w1 ⟨rfl, P⟩; refine ⟨_, rfl, ?_⟩; obtain ⟨ce0, ce1, ce2, fe0, fe1, fe2⟩ := P.c3 1 rfl) | ((with_reducible refine gate_callee (f := 24) rfl ?_); refine goesL_ (some 24) rfl rfl Try.func24 s2_ rfl #[.agg #[.slice A1_0 l1_0.length c1_0, .slice A1_1 l1_1.length c1_1, .slice A1_2 l1_2.length c1_2], .int .i64 t] rfl s3_ ?_; refine (szP t u P hr1_0 hc1_0 hr1_1 hc1_1 hr1_2 hc1_2 hB).mono ?_; clear P; rintro e w1 ⟨rfl, P⟩; refine ⟨_, rfl, ?_⟩; obtain ⟨ce0, ce1, ce2, fe0, fe1, fe2⟩ := P.c3 0 rfl))
 replace P := P.drew
 refine start_ (n := 11) (S := fun w' => C3 w' g2 (.slice A0_0 l0_0.length c0_0) (.slice A0_1 l0_1.length c0_1) (.slice A0_2 l0_2.length c0_2) ∧ C3 w' g3 (.slice A1_0 l1_0.length c1_0) (.slice A1_1 l1_1.length c1_1) (.slice A1_2 l1_2.length c1_2)) (ds := []) m0_ s2_ rfl rfl ⟨P.held3 0 rfl, P.held3 1 rfl⟩ (fun hHeld => ?_)
 refine with_tabW laws_FnExactJoinPresence.tab8 laws_FnExactJoinPresence.bits8 (fun HT_ HW_ => ?_)
 generalize World.drew _ = w1 at P hHeld ⊢
 refine take_ (i := 0) (N := some 28) (v := ?_) (a' := ?_) m1_ rfl rfl (take_ofW HT_.out HW_.out s2_) (fun _ _ _ h => h) (Or.inl ⟨by rfl, ?_⟩) hHeld ?_ ?_
 rotate_left
 { rintro w' ⟨⟨s0, s1, s2⟩, s3, s4, s5⟩; go_simp; with_reducible rfl }
 rotate_left
 · exact p1_
 refine take_ (i := 2) (N := some 30) (v := ?_) (a' := ?_) m2_ rfl rfl (take_ofW HT_.out HW_.out s2_) (fun _ _ _ h => h) (Or.inl ⟨by rfl, ?_⟩) hHeld ?_ ?_
 rotate_left
 { rintro w' ⟨⟨s0, s1, s2⟩, s3, s4, s5⟩; go_simp; with_reducible rfl }
 rotate_left
 · exact p1_
 have hL : ∃ L0, Pool w w1 L0 := ⟨_, P⟩
 refine join_ (σ := (Option Addr × Nat × Option Addr × Nat × Option Addr × Nat) × (Option Addr × Nat × Option Addr × Nat × Option Addr × Nat) × (Option Addr × Nat × Option Addr × Nat × Option Addr × Nat) × Nat) 2 m3_ (fun s_ => [(29, .agg #[.slice (s_.1.1) a.length (s_.1.2.1), .slice (s_.1.2.2.1) b.length (s_.1.2.2.2.1), .slice (s_.1.2.2.2.2.1) c.length (s_.1.2.2.2.2.2)]), (31, .agg #[.slice (s_.2.1.1) x.length (s_.2.1.2.1), .slice (s_.2.1.2.2.1) y.length (s_.2.1.2.2.2.1), .slice (s_.2.1.2.2.2.2.1) z.length (s_.2.1.2.2.2.2.2)]), (32, .tuple #[.agg #[.slice (s_.2.2.1.1) r1.length (s_.2.2.1.2.1), .slice (s_.2.2.1.2.2.1) r2.length (s_.2.2.1.2.2.2.1), .slice (s_.2.2.1.2.2.2.2.1) r3.length (s_.2.2.1.2.2.2.2.2)], .bool rb]), (6, .pointer (some ⟨s_.2.2.2, 0, none⟩)), (27, .tuple #[.agg #[.slice (s_.2.2.1.1) r1.length (s_.2.2.1.2.1), .slice (s_.2.2.1.2.2.1) r2.length (s_.2.2.1.2.2.2.1), .slice (s_.2.2.1.2.2.2.2.1) r3.length (s_.2.2.1.2.2.2.2.2)], .bool rb]), (33, .agg #[.slice (s_.2.2.1.1) r1.length (s_.2.2.1.2.1), .slice (s_.2.2.1.2.2.1) r2.length (s_.2.2.1.2.2.2.1), .slice (s_.2.2.1.2.2.2.2.1) r3.length (s_.2.2.1.2.2.2.2.2)]), (34, .bool rb)]) (fun s_ w' => Pool w w' ([rbox g2 #[.slice A0_0 l0_0.length c0_0, .slice A0_1 l0_1.length c0_1, .slice A0_2 l0_2.length c0_2] 45, rbox g3 #[.slice A1_0 l1_0.length c1_0, .slice A1_1 l1_1.length c1_1, .slice A1_2 l1_2.length c1_2] 45] ++ [rp w.heap.size (s_.2.2.1.1) r1.length (s_.2.2.1.2.1) r1 (s_.2.2.1.2.2.1) r2.length (s_.2.2.1.2.2.2.1) r2 (s_.2.2.1.2.2.2.2.1) r3.length (s_.2.2.1.2.2.2.2.2) r3, rbox s_.2.2.2 #[.slice none 0 0, .slice none 0 0, .slice none 0 0] 27])) ?_ ?_
 rotate_left
 {
 intro hCont
 refine two_ (i := 1) (j := 8) (Ni := some 29) (Nj := some 6) m4_ m5_ rfl rfl rfl rfl (two_of HT_.out s2_) (by decide) (by decide) (fun K hK => ?_) (fun K hK => ?_)
 {
 refine goes_ Try.func26 s2_ rfl #[.agg #[.slice A0_0 l0_0.length c0_0, .slice A0_1 l0_1.length c0_1, .slice A0_2 l0_2.length c0_2]] (by rfl) rfl rfl s3_ ?_
 refine (toP k a b c P hr0_0 hc0_0 hr0_1 hc0_1 hr0_2 hc0_2 hTA).mono ?_
 clear P
 rintro e w1 ⟨B0, Bc0, B1, Bc1, B2, Bc2, rfl, P⟩
 refine ⟨_, rfl, ?_⟩
 refine hK.out _ _ ⟨P.held3 0 rfl, P.held3 1 rfl⟩ (fun hHeld => ?_)
 clear hK K
 refine norm_ (a' := ?_) ?_ ?_; rotate_left; { show Act.put _ (some 29) _ = _; simp only [Act.put, List.setIfInBounds_toArray, List.set_cons_zero, List.set_cons_succ, i64_w, i32_w]; rfl }
 refine two_ (i := 3) (j := 8) (Ni := some 31) (Nj := some 6) m6_ m7_ rfl rfl rfl rfl (two_of HT_.out s2_) (by decide) (by decide) (fun K hK => ?_) (fun K hK => ?_)
 {
 refine goes_ Try.func26 s2_ rfl #[.agg #[.slice A1_0 l1_0.length c1_0, .slice A1_1 l1_1.length c1_1, .slice A1_2 l1_2.length c1_2]] (by rfl) rfl rfl s3_ ?_
 refine (toP k x y z P hr1_0 hc1_0 hr1_1 hc1_1 hr1_2 hc1_2 hTB).mono ?_
 clear P
 rintro e w1 ⟨D0, Dc0, D1, Dc1, D2, Dc2, rfl, P⟩
 refine ⟨_, rfl, ?_⟩
 refine hK.out _ _ ⟨P.held3 0 rfl, P.held3 1 rfl⟩ (fun hHeld => ?_)
 clear hK K
 refine norm_ (a' := ?_) ?_ ?_; rotate_left; { show Act.put _ (some 31) _ = _; simp only [Act.put, List.setIfInBounds_toArray, List.set_cons_zero, List.set_cons_succ, i64_w, i32_w]; rfl }
 refine two_ (i := 4) (j := 8) (Ni := some 32) (Nj := some 6) m8_ m9_ rfl rfl rfl rfl (two_of HT_.out s2_) (by decide) (by decide) (fun K hK => ?_) (fun K hK => ?_)
 {
 refine goes_ Try.func36 s2_ rfl #[.agg #[.slice B0 a.length Bc0, .slice B1 b.length Bc1, .slice B2 c.length Bc2], .agg #[.slice D0 x.length Dc0, .slice D1 y.length Dc1, .slice D2 z.length Dc2]] (by rfl) rfl rfl s3_ ?_
 refine (specJ k r1 r2 r3 rb P 2 3 rfl rfl hS).mono ?_
 clear P
 rintro e w1 ⟨R0, Rc0, R1, Rc1, R2, Rc2, rfl, P⟩
 refine ⟨_, rfl, ?_⟩
 refine hK.out _ _ ⟨P.held3 0 rfl, P.held3 1 rfl⟩ (fun hHeld => ?_)
 clear hK K
 refine norm_ (a' := ?_) ?_ ?_; rotate_left; { show Act.put _ (some 32) _ = _; simp only [Act.put, List.setIfInBounds_toArray, List.set_cons_zero, List.set_cons_succ, i64_w, i32_w]; rfl }
 refine pu_ 5 27 m10_ (any_of HT_.out s2_) ?_
 refine pu_ 6 33 m11_ (any_of HT_.out s2_) ?_
 refine pu_ 7 34 m12_ (any_of HT_.out s2_) ?_
 refine one_ (i := 8) (N := some 6) m3_ rfl rfl (one_of HT_.out s2_) (by decide) (fun K hK => ?_)
 refine box_step ?hg (N := 6) ?hd (cs := #[.slice none 0 0, .slice none 0 0, .slice none 0 0]) (t := 27) ?hr ?_; (case hd => rfl); (case hg => rfl); (case hr => first | (go_simp; done) | (go_simp; rfl))
 intro g6 hg w1 hbox hb
 replace P := P.box hg hbox hb
 clear hb hbox hg
 refine hK.out _ _ ⟨P.held3 0 rfl, P.held3 1 rfl⟩ (fun hHeld => ?_)
 clear hK K
 refine norm_ (a' := ?_) ?_ ?_; rotate_left; { show Act.put _ (some 6) _ = _; simp only [Act.put, List.setIfInBounds_toArray, List.set_cons_zero, List.set_cons_succ, i64_w, i32_w]; rfl }
 exact norm_ (by simp only [putAll, Act.put, List.setIfInBounds_toArray, List.set_cons_zero, List.set_cons_succ]) (hCont (⟨B0, Bc0, B1, Bc1, B2, Bc2⟩, ⟨D0, Dc0, D1, Dc1, D2, Dc2⟩, ⟨R0, Rc0, R1, Rc1, R2, Rc2⟩, g6) _ (P.pick [0, 1, 4, 5] _ (by decide) rfl))}
 {
 refine box_step ?hg (N := 6) ?hd (cs := #[.slice none 0 0, .slice none 0 0, .slice none 0 0]) (t := 27) ?hr ?_; (case hd => rfl); (case hg => rfl); (case hr => first | (go_simp; done) | (go_simp; rfl))
 intro g6 hg w1 hbox hb
 replace P := P.box hg hbox hb
 clear hb hbox hg
 refine hK.out _ _ ⟨P.held3 0 rfl, P.held3 1 rfl⟩ (fun hHeld => ?_)
 clear hK K
 refine norm_ (a' := ?_) ?_ ?_; rotate_left; { show Act.put _ (some 6) _ = _; simp only [Act.put, List.setIfInBounds_toArray, List.set_cons_zero, List.set_cons_succ, i64_w, i32_w]; rfl }
 refine one_ (i := 4) (N := some 32) m13_ rfl rfl (one_of HT_.out s2_) (by decide) (fun K hK => ?_)
 refine goes_ Try.func36 s2_ rfl #[.agg #[.slice B0 a.length Bc0, .slice B1 b.length Bc1, .slice B2 c.length Bc2], .agg #[.slice D0 x.length Dc0, .slice D1 y.length Dc1, .slice D2 z.length Dc2]] (by rfl) rfl rfl s3_ ?_
 refine (specJ k r1 r2 r3 rb P 2 3 rfl rfl hS).mono ?_
 clear P
 rintro e w1 ⟨R0, Rc0, R1, Rc1, R2, Rc2, rfl, P⟩
 refine ⟨_, rfl, ?_⟩
 refine hK.out _ _ ⟨P.held3 0 rfl, P.held3 1 rfl⟩ (fun hHeld => ?_)
 clear hK K
 refine norm_ (a' := ?_) ?_ ?_; rotate_left; { show Act.put _ (some 32) _ = _; simp only [Act.put, List.setIfInBounds_toArray, List.set_cons_zero, List.set_cons_succ, i64_w, i32_w]; rfl }
 refine pu_ 5 27 m14_ (any_of HT_.out s2_) ?_
 refine pu_ 6 33 m15_ (any_of HT_.out s2_) ?_
 refine pu_ 7 34 m3_ (any_of HT_.out s2_) ?_
 exact norm_ (by simp only [putAll, Act.put, List.setIfInBounds_toArray, List.set_cons_zero, List.set_cons_succ]) (hCont (⟨B0, Bc0, B1, Bc1, B2, Bc2⟩, ⟨D0, Dc0, D1, Dc1, D2, Dc2⟩, ⟨R0, Rc0, R1, Rc1, R2, Rc2⟩, g6) _ (P.pick [0, 1, 5, 4] _ (by decide) rfl))}}
 {
 refine box_step ?hg (N := 6) ?hd (cs := #[.slice none 0 0, .slice none 0 0, .slice none 0 0]) (t := 27) ?hr ?_; (case hd => rfl); (case hg => rfl); (case hr => first | (go_simp; done) | (go_simp; rfl))
 intro g6 hg w1 hbox hb
 replace P := P.box hg hbox hb
 clear hb hbox hg
 refine hK.out _ _ ⟨P.held3 0 rfl, P.held3 1 rfl⟩ (fun hHeld => ?_)
 clear hK K
 refine norm_ (a' := ?_) ?_ ?_; rotate_left; { show Act.put _ (some 6) _ = _; simp only [Act.put, List.setIfInBounds_toArray, List.set_cons_zero, List.set_cons_succ, i64_w, i32_w]; rfl }
 refine one_ (i := 3) (N := some 31) m9_ rfl rfl (one_of HT_.out s2_) (by decide) (fun K hK => ?_)
 refine goes_ Try.func26 s2_ rfl #[.agg #[.slice A1_0 l1_0.length c1_0, .slice A1_1 l1_1.length c1_1, .slice A1_2 l1_2.length c1_2]] (by rfl) rfl rfl s3_ ?_
 refine (toP k x y z P hr1_0 hc1_0 hr1_1 hc1_1 hr1_2 hc1_2 hTB).mono ?_
 clear P
 rintro e w1 ⟨D0, Dc0, D1, Dc1, D2, Dc2, rfl, P⟩
 refine ⟨_, rfl, ?_⟩
 refine hK.out _ _ ⟨P.held3 0 rfl, P.held3 1 rfl⟩ (fun hHeld => ?_)
 clear hK K
 refine norm_ (a' := ?_) ?_ ?_; rotate_left; { show Act.put _ (some 31) _ = _; simp only [Act.put, List.setIfInBounds_toArray, List.set_cons_zero, List.set_cons_succ, i64_w, i32_w]; rfl }
 refine one_ (i := 4) (N := some 32) m13_ rfl rfl (one_of HT_.out s2_) (by decide) (fun K hK => ?_)
 refine goes_ Try.func36 s2_ rfl #[.agg #[.slice B0 a.length Bc0, .slice B1 b.length Bc1, .slice B2 c.length Bc2], .agg #[.slice D0 x.length Dc0, .slice D1 y.length Dc1, .slice D2 z.length Dc2]] (by rfl) rfl rfl s3_ ?_
 refine (specJ k r1 r2 r3 rb P 2 4 rfl rfl hS).mono ?_
 clear P
 rintro e w1 ⟨R0, Rc0, R1, Rc1, R2, Rc2, rfl, P⟩
 refine ⟨_, rfl, ?_⟩
 refine hK.out _ _ ⟨P.held3 0 rfl, P.held3 1 rfl⟩ (fun hHeld => ?_)
 clear hK K
 refine norm_ (a' := ?_) ?_ ?_; rotate_left; { show Act.put _ (some 32) _ = _; simp only [Act.put, List.setIfInBounds_toArray, List.set_cons_zero, List.set_cons_succ, i64_w, i32_w]; rfl }
 refine pu_ 5 27 m14_ (any_of HT_.out s2_) ?_
 refine pu_ 6 33 m15_ (any_of HT_.out s2_) ?_
 refine pu_ 7 34 m3_ (any_of HT_.out s2_) ?_
 exact norm_ (by simp only [putAll, Act.put, List.setIfInBounds_toArray, List.set_cons_zero, List.set_cons_succ]) (hCont (⟨B0, Bc0, B1, Bc1, B2, Bc2⟩, ⟨D0, Dc0, D1, Dc1, D2, Dc2⟩, ⟨R0, Rc0, R1, Rc1, R2, Rc2⟩, g6) _ (P.pick [0, 1, 5, 3] _ (by decide) rfl))}}
 {
 refine box_step ?hg (N := 6) ?hd (cs := #[.slice none 0 0, .slice none 0 0, .slice none 0 0]) (t := 27) ?hr ?_; (case hd => rfl); (case hg => rfl); (case hr => first | (go_simp; done) | (go_simp; rfl))
 intro g6 hg w1 hbox hb
 replace P := P.box hg hbox hb
 clear hb hbox hg
 refine hK.out _ _ ⟨P.held3 0 rfl, P.held3 1 rfl⟩ (fun hHeld => ?_)
 clear hK K
 refine norm_ (a' := ?_) ?_ ?_; rotate_left; { show Act.put _ (some 6) _ = _; simp only [Act.put, List.setIfInBounds_toArray, List.set_cons_zero, List.set_cons_succ, i64_w, i32_w]; rfl }
 refine one_ (i := 1) (N := some 29) m7_ rfl rfl (one_of HT_.out s2_) (by decide) (fun K hK => ?_)
 refine goes_ Try.func26 s2_ rfl #[.agg #[.slice A0_0 l0_0.length c0_0, .slice A0_1 l0_1.length c0_1, .slice A0_2 l0_2.length c0_2]] (by rfl) rfl rfl s3_ ?_
 refine (toP k a b c P hr0_0 hc0_0 hr0_1 hc0_1 hr0_2 hc0_2 hTA).mono ?_
 clear P
 rintro e w1 ⟨B0, Bc0, B1, Bc1, B2, Bc2, rfl, P⟩
 refine ⟨_, rfl, ?_⟩
 refine hK.out _ _ ⟨P.held3 0 rfl, P.held3 1 rfl⟩ (fun hHeld => ?_)
 clear hK K
 refine norm_ (a' := ?_) ?_ ?_; rotate_left; { show Act.put _ (some 29) _ = _; simp only [Act.put, List.setIfInBounds_toArray, List.set_cons_zero, List.set_cons_succ, i64_w, i32_w]; rfl }
 refine one_ (i := 3) (N := some 31) m9_ rfl rfl (one_of HT_.out s2_) (by decide) (fun K hK => ?_)
 refine goes_ Try.func26 s2_ rfl #[.agg #[.slice A1_0 l1_0.length c1_0, .slice A1_1 l1_1.length c1_1, .slice A1_2 l1_2.length c1_2]] (by rfl) rfl rfl s3_ ?_
 refine (toP k x y z P hr1_0 hc1_0 hr1_1 hc1_1 hr1_2 hc1_2 hTB).mono ?_
 clear P
 rintro e w1 ⟨D0, Dc0, D1, Dc1, D2, Dc2, rfl, P⟩
 refine ⟨_, rfl, ?_⟩
 refine hK.out _ _ ⟨P.held3 0 rfl, P.held3 1 rfl⟩ (fun hHeld => ?_)
 clear hK K
 refine norm_ (a' := ?_) ?_ ?_; rotate_left; { show Act.put _ (some 31) _ = _; simp only [Act.put, List.setIfInBounds_toArray, List.set_cons_zero, List.set_cons_succ, i64_w, i32_w]; rfl }
 refine one_ (i := 4) (N := some 32) m13_ rfl rfl (one_of HT_.out s2_) (by decide) (fun K hK => ?_)
 refine goes_ Try.func36 s2_ rfl #[.agg #[.slice B0 a.length Bc0, .slice B1 b.length Bc1, .slice B2 c.length Bc2], .agg #[.slice D0 x.length Dc0, .slice D1 y.length Dc1, .slice D2 z.length Dc2]] (by rfl) rfl rfl s3_ ?_
 refine (specJ k r1 r2 r3 rb P 3 4 rfl rfl hS).mono ?_
 clear P
 rintro e w1 ⟨R0, Rc0, R1, Rc1, R2, Rc2, rfl, P⟩
 refine ⟨_, rfl, ?_⟩
 refine hK.out _ _ ⟨P.held3 0 rfl, P.held3 1 rfl⟩ (fun hHeld => ?_)
 clear hK K
 refine norm_ (a' := ?_) ?_ ?_; rotate_left; { show Act.put _ (some 32) _ = _; simp only [Act.put, List.setIfInBounds_toArray, List.set_cons_zero, List.set_cons_succ, i64_w, i32_w]; rfl }
 refine pu_ 5 27 m14_ (any_of HT_.out s2_) ?_
 refine pu_ 6 33 m15_ (any_of HT_.out s2_) ?_
 refine pu_ 7 34 m3_ (any_of HT_.out s2_) ?_
 exact norm_ (by simp only [putAll, Act.put, List.setIfInBounds_toArray, List.set_cons_zero, List.set_cons_succ]) (hCont (⟨B0, Bc0, B1, Bc1, B2, Bc2⟩, ⟨D0, Dc0, D1, Dc1, D2, Dc2⟩, ⟨R0, Rc0, R1, Rc1, R2, Rc2⟩, g6) _ (P.pick [0, 1, 5, 2] _ (by decide) rfl))}}
 clear P hHeld hL
 rintro ⟨⟨B0, Bc0, B1, Bc1, B2, Bc2⟩, ⟨D0, Dc0, D1, Dc1, D2, Dc2⟩, ⟨G0, Gc0, G1, Gc1, G2, Gc2⟩, g6⟩ w1 P
 refine norm_ (a' := ?_) ?_ ?_; rotate_left; { simp only [putAll, Act.put, List.setIfInBounds_toArray, List.set_cons_zero, List.set_cons_succ]; rfl }
 refine one_ (i := 9) (N := none) m16_ rfl rfl (one_of HT_.out s2_) (by decide) (fun K hK => ?_)
 obtain ⟨ce0, ce1, ce2, fe0, fe1, fe2⟩ := P.c3 3 rfl
 have P2 := P.set3 (x := .slice G0 r1.length Gc0) (y := .slice G1 r2.length Gc1) (z := .slice G2 r3.length Gc2) 3 rfl (P.base 3 rfl)
 refine skip_ (w1 := ?_) (by rfl) rfl ?_ ?_; rotate_left; { go_simp; rfl }
 refine hK.out _ _ ⟨P2.held3 0 rfl, P2.held3 1 rfl⟩ (fun hHeld => ?_)
 clear hK K P ce0 ce1 ce2 fe0 fe1 fe2
 revert P2; generalize World.setCell _ _ _ = w1; intro P
 refine pu_ 10 7 m17_ (any_of HT_.out s2_) ?_
 refine done_ (done_of HT_.out s2_) ?_
 obtain ⟨ce0, ce1, ce2, fe0, fe1, fe2⟩ := P.c3 0 rfl
 go_upto_region 14 with (first | ((with_reducible refine gate_callee (f := 26) rfl ?_); refine goesL_ (some 36) rfl rfl Try.func26 s2_ rfl #[.agg #[.slice A0_0 l0_0.length c0_0, .slice A0_1 l0_1.length c0_1, .slice A0_2 l0_2.length c0_2]] rfl s3_ ?_; refine (toP k a b c P hr0_0 hc0_0 hr0_1 hc0_1 hr0_2 hc0_2 hTA).mono ?_; clear P; rintro e w1 ⟨E0, Ec0, E1, Ec1, E2, Ec2, rfl, P⟩; refine ⟨_, rfl, ?_⟩) | ((with_reducible refine gate_dst (N := 8) rfl ?_); (try (refine gate_guard (by rfl) ?_; dsimp only)); refine bx_ 8 #[.slice none 0 0, .slice none 0 0, .slice none 0 0] 27 ?_; intro g8 hg w1 hbox hb; replace P := P.box hg hbox hb; clear hb hbox hg; obtain ⟨ce0, ce1, ce2, fe0, fe1, fe2⟩ := P.c3 5 rfl) | ((with_reducible refine gate_store (p := 8) rfl ?_); refine st3 P 5 rfl rfl rfl rfl (by go_simp; rfl) ?_; clear P; intro w1 P; obtain ⟨ce0, ce1, ce2, fe0, fe1, fe2⟩ := P.c3 1 rfl) | ((with_reducible refine gate_callee (f := 26) rfl ?_); refine goesL_ (some 38) rfl rfl Try.func26 s2_ rfl #[.agg #[.slice A1_0 l1_0.length c1_0, .slice A1_1 l1_1.length c1_1, .slice A1_2 l1_2.length c1_2]] rfl s3_ ?_; refine (toP k x y z P hr1_0 hc1_0 hr1_1 hc1_1 hr1_2 hc1_2 hTB).mono ?_; clear P; rintro e w1 ⟨W0, Wc0, W1, Wc1, W2, Wc2, rfl, P⟩; refine ⟨_, rfl, ?_⟩) | ((with_reducible refine gate_dst (N := 9) rfl ?_); (try (refine gate_guard (by rfl) ?_; dsimp only)); refine bx_ 9 #[.slice none 0 0, .slice none 0 0, .slice none 0 0] 27 ?_; intro g9 hg w1 hbox hb; replace P := P.box hg hbox hb; clear hb hbox hg; obtain ⟨ce0, ce1, ce2, fe0, fe1, fe2⟩ := P.c3 7 rfl) | ((with_reducible refine gate_store (p := 9) rfl ?_); refine st3 P 7 rfl rfl rfl rfl (by go_simp; rfl) ?_; clear P; intro w1 P; obtain ⟨ce0, ce1, ce2, fe0, fe1, fe2⟩ := P.c3 5 rfl; obtain ⟨ce0b, ce1b, ce2b, fe0b, fe1b, fe2b⟩ := P.c3 7 rfl) | ((with_reducible refine gate_callee (f := 37) rfl ?_); refine goesL_ (some 42) rfl rfl Try.func37 s2_ rfl #[.agg #[.slice E0 a.length Ec0, .slice E1 b.length Ec1, .slice E2 c.length Ec2], .agg #[.slice W0 x.length Wc0, .slice W1 y.length Wc1, .slice W2 z.length Wc2]] rfl s3_ ?_; refine (implJ k r1 r2 r3 rb P 4 6 rfl rfl hI).mono ?_; clear P; rintro e w1 ⟨I0, Ic0, I1, Ic1, I2, Ic2, rfl, P⟩; refine ⟨_, rfl, ?_⟩) | ((with_reducible refine gate_dst (N := 10) rfl ?_); (try (refine gate_guard (by rfl) ?_; dsimp only)); refine bx_ 10 #[.slice none 0 0, .slice none 0 0, .slice none 0 0] 27 ?_; intro g10 hg w1 hbox hb; replace P := P.box hg hbox hb; clear hb hbox hg; obtain ⟨ce0, ce1, ce2, fe0, fe1, fe2⟩ := P.c3 9 rfl) | ((with_reducible refine gate_store (p := 10) rfl ?_); refine st3 P 9 rfl rfl rfl rfl (by go_simp; rfl) ?_; clear P; intro w1 P; obtain ⟨ce0, ce1, ce2, fe0, fe1, fe2⟩ := P.c3 9 rfl; obtain ⟨ce0b, ce1b, ce2b, fe0b, fe1b, fe2b⟩ := P.c3 3 rfl) | ((with_reducible refine gate_callee (f := 27) rfl ?_); refine goesL_ (some 47) rfl rfl Try.func27 s2_ rfl #[.agg #[.slice I0 r1.length Ic0, .slice I1 r2.length Ic1, .slice I2 r3.length Ic2], .agg #[.slice G0 r1.length Gc0, .slice G1 r2.length Gc1, .slice G2 r3.length Gc2]] rfl s3_ ?_; refine (eqP k true P 8 2 rfl rfl hE).mono ?_; clear P; rintro e w1 ⟨rfl, P⟩; refine ⟨_, rfl, ?_⟩))
 replace P := P.drew
 refine start_ (n := 5) (S := fun w' => C3 w' g8 (.slice E0 a.length Ec0) (.slice E1 b.length Ec1) (.slice E2 c.length Ec2) ∧ C3 w' g2 (.slice A0_0 l0_0.length c0_0) (.slice A0_1 l0_1.length c0_1) (.slice A0_2 l0_2.length c0_2)) (ds := []) #[F,F,F,F,F] s2_ rfl rfl ⟨P.held3 5 rfl, P.held3 0 rfl⟩ (fun hHeld => ?_)
 generalize World.drew _ = w1 at P hHeld ⊢
 refine take_ (i := 0) (N := some 54) (v := ?_) (a' := ?_) #[T,F,F,F,F] rfl rfl s2_ (fun _ _ _ h => h) (Or.inl ⟨by rfl, ?_⟩) hHeld ?_ ?_
 rotate_left
 { rintro w' ⟨⟨s0, s1, s2⟩, s3, s4, s5⟩; go_simp; with_reducible rfl }
 rotate_left
 · exact p1_
 refine take_ (i := 1) (N := some 55) (v := ?_) (a' := ?_) #[T,T,F,F,F] rfl rfl s2_ (fun _ _ _ h => h) (Or.inl ⟨by rfl, ?_⟩) hHeld ?_ ?_
 rotate_left
 { rintro w' ⟨⟨s0, s1, s2⟩, s3, s4, s5⟩; go_simp; with_reducible rfl }
 rotate_left
 · exact p1_
 refine one_ (i := 2) (N := some 56) #[T,T,T,F,F] rfl rfl s2_ (by decide) (fun K hK => ?_)
 refine goes_ Try.func26 s2_ rfl #[.agg #[.slice A0_0 l0_0.length c0_0, .slice A0_1 l0_1.length c0_1, .slice A0_2 l0_2.length c0_2]] (by rfl) rfl rfl s3_ ?_
 refine (toP k a b c P hr0_0 hc0_0 hr0_1 hc0_1 hr0_2 hc0_2 hTA).mono ?_
 clear P
 rintro e w1 ⟨U0, Uc0, U1, Uc1, U2, Uc2, rfl, P⟩
 refine ⟨_, rfl, ?_⟩
 refine hK.out _ _ ⟨P.held3 5 rfl, P.held3 0 rfl⟩ (fun hHeld => ?_)
 clear hK K
 refine norm_ (a' := ?_) ?_ ?_; rotate_left; { show Act.put _ (some 56) _ = _; simp only [Act.put, List.setIfInBounds_toArray, List.set_cons_zero, List.set_cons_succ, i64_w, i32_w]; rfl }
 refine one_ (i := 3) (N := some 57) #[T,T,T,T,F] rfl rfl s2_ (by decide) (fun K hK => ?_)
 refine goes_ Try.func27 s2_ rfl #[.agg #[.slice E0 a.length Ec0, .slice E1 b.length Ec1, .slice E2 c.length Ec2], .agg #[.slice U0 a.length Uc0, .slice U1 b.length Uc1, .slice U2 c.length Uc2]] (by rfl) rfl rfl s3_ ?_
 refine (eqP k true P 4 10 rfl rfl hEA).mono ?_
 clear P
 rintro e w1 ⟨rfl, P⟩
 refine ⟨_, rfl, ?_⟩
 refine hK.out _ _ ⟨P.held3 5 rfl, P.held3 0 rfl⟩ (fun hHeld => ?_)
 clear hK K
 refine norm_ (a' := ?_) ?_ ?_; rotate_left; { show Act.put _ (some 57) _ = _; simp only [Act.put, List.setIfInBounds_toArray, List.set_cons_zero, List.set_cons_succ, i64_w, i32_w]; rfl }
 refine pure_ (i := 4) (N := some 58) (v := ?_) (a' := ?_) #[T,T,T,T,T] rfl rfl s2_ (fun _ _ _ h => h) (Or.inl ⟨by rfl, ?_⟩) ?_ ?_
 rotate_left
 { intro w'; go_simp; with_reducible rfl }
 rotate_left
 · exact p1_
 refine done_ s2_ ?_
 clear hHeld
 replace P : Pool w _ [rbox g2 #[.slice A0_0 l0_0.length c0_0, .slice A0_1 l0_1.length c0_1, .slice A0_2 l0_2.length c0_2] 45, rbox g3 #[.slice A1_0 l1_0.length c1_0, .slice A1_1 l1_1.length c1_1, .slice A1_2 l1_2.length c1_2] 45, rp w.heap.size G0 r1.length Gc0 r1 G1 r2.length Gc1 r2 G2 r3.length Gc2 r3, rbox g6 #[.slice G0 r1.length Gc0, .slice G1 r2.length Gc1, .slice G2 r3.length Gc2] 27, rp w.heap.size E0 a.length Ec0 a E1 b.length Ec1 b E2 c.length Ec2 c, rbox g8 #[.slice E0 a.length Ec0, .slice E1 b.length Ec1, .slice E2 c.length Ec2] 27, rp w.heap.size W0 x.length Wc0 x W1 y.length Wc1 y W2 z.length Wc2 z, rbox g9 #[.slice W0 x.length Wc0, .slice W1 y.length Wc1, .slice W2 z.length Wc2] 27, rp w.heap.size I0 r1.length Ic0 r1 I1 r2.length Ic1 r2 I2 r3.length Ic2 r3, rbox g10 #[.slice I0 r1.length Ic0, .slice I1 r2.length Ic1, .slice I2 r3.length Ic2] 27] := P.pick [0, 1, 2, 3, 4, 5, 6, 7, 8, 9] _ (by decide) rfl
 go_upto_region 16 with (fail)
 replace P := P.drew
 refine start_ (n := 5) (S := fun w' => C3 w' g9 (.slice W0 x.length Wc0) (.slice W1 y.length Wc1) (.slice W2 z.length Wc2) ∧ C3 w' g3 (.slice A1_0 l1_0.length c1_0) (.slice A1_1 l1_1.length c1_1) (.slice A1_2 l1_2.length c1_2)) (ds := []) #[F,F,F,F,F] s2_ rfl rfl ⟨P.held3 7 rfl, P.held3 1 rfl⟩ (fun hHeld => ?_)
 generalize World.drew _ = w1 at P hHeld ⊢
 refine take_ (i := 0) (N := some 59) (v := ?_) (a' := ?_) #[T,F,F,F,F] rfl rfl s2_ (fun _ _ _ h => h) (Or.inl ⟨by rfl, ?_⟩) hHeld ?_ ?_
 rotate_left
 { rintro w' ⟨⟨s0, s1, s2⟩, s3, s4, s5⟩; go_simp; with_reducible rfl }
 rotate_left
 · exact p1_
 refine take_ (i := 1) (N := some 60) (v := ?_) (a' := ?_) #[T,T,F,F,F] rfl rfl s2_ (fun _ _ _ h => h) (Or.inl ⟨by rfl, ?_⟩) hHeld ?_ ?_
 rotate_left
 { rintro w' ⟨⟨s0, s1, s2⟩, s3, s4, s5⟩; go_simp; with_reducible rfl }
 rotate_left
 · exact p1_
 refine one_ (i := 2) (N := some 61) #[T,T,T,F,F] rfl rfl s2_ (by decide) (fun K hK => ?_)
 refine goes_ Try.func26 s2_ rfl #[.agg #[.slice A1_0 l1_0.length c1_0, .slice A1_1 l1_1.length c1_1, .slice A1_2 l1_2.length c1_2]] (by rfl) rfl rfl s3_ ?_
 refine (toP k x y z P hr1_0 hc1_0 hr1_1 hc1_1 hr1_2 hc1_2 hTB).mono ?_
 clear P
 rintro e w1 ⟨U0, Uc0, U1, Uc1, U2, Uc2, rfl, P⟩
 refine ⟨_, rfl, ?_⟩
 refine hK.out _ _ ⟨P.held3 7 rfl, P.held3 1 rfl⟩ (fun hHeld => ?_)
 clear hK K
 refine norm_ (a' := ?_) ?_ ?_; rotate_left; { show Act.put _ (some 61) _ = _; simp only [Act.put, List.setIfInBounds_toArray, List.set_cons_zero, List.set_cons_succ, i64_w, i32_w]; rfl }
 refine one_ (i := 3) (N := some 62) #[T,T,T,T,F] rfl rfl s2_ (by decide) (fun K hK => ?_)
 refine goes_ Try.func27 s2_ rfl #[.agg #[.slice W0 x.length Wc0, .slice W1 y.length Wc1, .slice W2 z.length Wc2], .agg #[.slice U0 x.length Uc0, .slice U1 y.length Uc1, .slice U2 z.length Uc2]] (by rfl) rfl rfl s3_ ?_
 refine (eqP k true P 6 10 rfl rfl hEB).mono ?_
 clear P
 rintro e w1 ⟨rfl, P⟩
 refine ⟨_, rfl, ?_⟩
 refine hK.out _ _ ⟨P.held3 7 rfl, P.held3 1 rfl⟩ (fun hHeld => ?_)
 clear hK K
 refine norm_ (a' := ?_) ?_ ?_; rotate_left; { show Act.put _ (some 62) _ = _; simp only [Act.put, List.setIfInBounds_toArray, List.set_cons_zero, List.set_cons_succ, i64_w, i32_w]; rfl }
 refine pure_ (i := 4) (N := some 63) (v := ?_) (a' := ?_) #[T,T,T,T,T] rfl rfl s2_ (fun _ _ _ h => h) (Or.inl ⟨by rfl, ?_⟩) ?_ ?_
 rotate_left
 { intro w'; go_simp; with_reducible rfl }
 rotate_left
 · exact p1_
 refine done_ s2_ ?_
 clear hHeld
 replace P : Pool w _ [rbox g2 #[.slice A0_0 l0_0.length c0_0, .slice A0_1 l0_1.length c0_1, .slice A0_2 l0_2.length c0_2] 45, rbox g3 #[.slice A1_0 l1_0.length c1_0, .slice A1_1 l1_1.length c1_1, .slice A1_2 l1_2.length c1_2] 45, rp w.heap.size G0 r1.length Gc0 r1 G1 r2.length Gc1 r2 G2 r3.length Gc2 r3, rbox g6 #[.slice G0 r1.length Gc0, .slice G1 r2.length Gc1, .slice G2 r3.length Gc2] 27, rp w.heap.size E0 a.length Ec0 a E1 b.length Ec1 b E2 c.length Ec2 c, rbox g8 #[.slice E0 a.length Ec0, .slice E1 b.length Ec1, .slice E2 c.length Ec2] 27, rp w.heap.size W0 x.length Wc0 x W1 y.length Wc1 y W2 z.length Wc2 z, rbox g9 #[.slice W0 x.length Wc0, .slice W1 y.length Wc1, .slice W2 z.length Wc2] 27, rp w.heap.size I0 r1.length Ic0 r1 I1 r2.length Ic1 r2 I2 r3.length Ic2 r3, rbox g10 #[.slice I0 r1.length Ic0, .slice I1 r2.length Ic1, .slice I2 r3.length Ic2] 27] := P.pick [0, 1, 2, 3, 4, 5, 6, 7, 8, 9] _ (by decide) rfl
 obtain ⟨ce0, ce1, ce2, fe0, fe1, fe2⟩ := P.c3 5 rfl
 go_upto_region 31 with (first | ((with_reducible refine gate_callee (f := 28) rfl ?_); refine goesL_ (some 66) rfl rfl Try.func28 s2_ rfl #[.agg #[.slice E0 a.length Ec0, .slice E1 b.length Ec1, .slice E2 c.length Ec2], .int .i64 1] rfl s3_ ?_; refine (markP k 1 s a1 b1 c1 P 4 rfl hMA).mono ?_; clear P; rintro e w1 ⟨rfl, P⟩; refine ⟨_, rfl, ?_⟩; obtain ⟨ce0, ce1, ce2, fe0, fe1, fe2⟩ := P.c3 7 rfl) | ((with_reducible refine gate_callee (f := 28) rfl ?_); refine goesL_ (some 69) rfl rfl Try.func28 s2_ rfl #[.agg #[.slice W0 x.length Wc0, .slice W1 y.length Wc1, .slice W2 z.length Wc2], .int .i64 s] rfl s3_ ?_; refine (markP k s v x1 y1 z1 P 6 rfl hMB).mono ?_; clear P; rintro e w1 ⟨rfl, P⟩; refine ⟨_, rfl, ?_⟩; obtain ⟨ce0, ce1, ce2, fe0, fe1, fe2⟩ := P.c3 9 rfl; obtain ⟨ce0b, ce1b, ce2b, fe0b, fe1b, fe2b⟩ := P.c3 3 rfl) | (go_at_call 27; refine (eqP k true P 8 2 rfl rfl hE).mono ?_; clear P; rintro e w1 ⟨rfl, P⟩; obtain ⟨ce0, ce1, ce2, fe0, fe1, fe2⟩ := P.c3 9 rfl) | ((with_reducible refine gate_callee (f := 28) rfl ?_); refine goesL_ (some 85) rfl rfl Try.func28 s2_ rfl #[.agg #[.slice I0 r1.length Ic0, .slice I1 r2.length Ic1, .slice I2 r3.length Ic2], .int .i64 1] rfl s3_ ?_; refine (markP k 1 q1 s1 s2 s3 P 8 rfl hMR).mono ?_; clear P; rintro e w1 ⟨rfl, P⟩; refine ⟨_, rfl, ?_⟩; obtain ⟨ce0, ce1, ce2, fe0, fe1, fe2⟩ := P.c3 9 rfl) | ((with_reducible refine gate_callee (f := 29) rfl ?_); refine goesL_ (some 88) rfl rfl Try.func29 s2_ rfl #[.agg #[.slice I0 r1.length Ic0, .slice I1 r2.length Ic1, .slice I2 r3.length Ic2], .int .i64 1] rfl s3_ ?_; refine (heldP k 1 q1 P 8 rfl hH).mono ?_; clear P; rintro e w1 ⟨rfl, P⟩; refine ⟨_, rfl, ?_⟩))
 replace P : Pool w _ [rbox g2 #[.slice A0_0 l0_0.length c0_0, .slice A0_1 l0_1.length c0_1, .slice A0_2 l0_2.length c0_2] 45, rbox g3 #[.slice A1_0 l1_0.length c1_0, .slice A1_1 l1_1.length c1_1, .slice A1_2 l1_2.length c1_2] 45, rp w.heap.size G0 r1.length Gc0 r1 G1 r2.length Gc1 r2 G2 r3.length Gc2 r3, rbox g6 #[.slice G0 r1.length Gc0, .slice G1 r2.length Gc1, .slice G2 r3.length Gc2] 27, rp w.heap.size I0 r1.length Ic0 s1 I1 r2.length Ic1 s2 I2 r3.length Ic2 s3, rbox g10 #[.slice I0 r1.length Ic0, .slice I1 r2.length Ic1, .slice I2 r3.length Ic2] 27] := P.pick [0, 1, 2, 3, 8, 9] _ (by decide) rfl
 replace P := P.drew
 refine start_ (n := 11) (S := fun w' => C3 w' g2 (.slice A0_0 l0_0.length c0_0) (.slice A0_1 l0_1.length c0_1) (.slice A0_2 l0_2.length c0_2) ∧ C3 w' g3 (.slice A1_0 l1_0.length c1_0) (.slice A1_1 l1_1.length c1_1) (.slice A1_2 l1_2.length c1_2)) (ds := []) m0_ s2_ rfl rfl ⟨P.held3 0 rfl, P.held3 1 rfl⟩ (fun hHeld => ?_)
 refine with_tabW laws_FnExactJoinPresence.tab31 laws_FnExactJoinPresence.bits31 (fun HT_ HW_ => ?_)
 generalize World.drew _ = w1 at P hHeld ⊢
 refine take_ (i := 0) (N := some 95) (v := ?_) (a' := ?_) m1_ rfl rfl (take_ofW HT_.out HW_.out s2_) (fun _ _ _ h => h) (Or.inl ⟨by rfl, ?_⟩) hHeld ?_ ?_
 rotate_left
 { rintro w' ⟨⟨s0, s1, s2⟩, s3, s4, s5⟩; go_simp; with_reducible rfl }
 rotate_left
 · exact p1_
 refine take_ (i := 2) (N := some 97) (v := ?_) (a' := ?_) m2_ rfl rfl (take_ofW HT_.out HW_.out s2_) (fun _ _ _ h => h) (Or.inl ⟨by rfl, ?_⟩) hHeld ?_ ?_
 rotate_left
 { rintro w' ⟨⟨s0, s1, s2⟩, s3, s4, s5⟩; go_simp; with_reducible rfl }
 rotate_left
 · exact p1_
 have hL : ∃ L0, Pool w w1 L0 := ⟨_, P⟩
 refine join_ (σ := (Option Addr × Nat × Option Addr × Nat × Option Addr × Nat) × (Option Addr × Nat × Option Addr × Nat × Option Addr × Nat) × (Option Addr × Nat × Option Addr × Nat × Option Addr × Nat) × Nat) 2 m3_ (fun s_ => [(96, .agg #[.slice (s_.1.1) a.length (s_.1.2.1), .slice (s_.1.2.2.1) b.length (s_.1.2.2.2.1), .slice (s_.1.2.2.2.2.1) c.length (s_.1.2.2.2.2.2)]), (98, .agg #[.slice (s_.2.1.1) x.length (s_.2.1.2.1), .slice (s_.2.1.2.2.1) y.length (s_.2.1.2.2.2.1), .slice (s_.2.1.2.2.2.2.1) z.length (s_.2.1.2.2.2.2.2)]), (99, .tuple #[.agg #[.slice (s_.2.2.1.1) r1.length (s_.2.2.1.2.1), .slice (s_.2.2.1.2.2.1) r2.length (s_.2.2.1.2.2.2.1), .slice (s_.2.2.1.2.2.2.2.1) r3.length (s_.2.2.1.2.2.2.2.2)], .bool rb]), (15, .pointer (some ⟨s_.2.2.2, 0, none⟩)), (94, .tuple #[.agg #[.slice (s_.2.2.1.1) r1.length (s_.2.2.1.2.1), .slice (s_.2.2.1.2.2.1) r2.length (s_.2.2.1.2.2.2.1), .slice (s_.2.2.1.2.2.2.2.1) r3.length (s_.2.2.1.2.2.2.2.2)], .bool rb]), (100, .agg #[.slice (s_.2.2.1.1) r1.length (s_.2.2.1.2.1), .slice (s_.2.2.1.2.2.1) r2.length (s_.2.2.1.2.2.2.1), .slice (s_.2.2.1.2.2.2.2.1) r3.length (s_.2.2.1.2.2.2.2.2)]), (101, .bool rb)]) (fun s_ w' => Pool w w' ([rbox g2 #[.slice A0_0 l0_0.length c0_0, .slice A0_1 l0_1.length c0_1, .slice A0_2 l0_2.length c0_2] 45, rbox g3 #[.slice A1_0 l1_0.length c1_0, .slice A1_1 l1_1.length c1_1, .slice A1_2 l1_2.length c1_2] 45, rp w.heap.size G0 r1.length Gc0 r1 G1 r2.length Gc1 r2 G2 r3.length Gc2 r3, rbox g6 #[.slice G0 r1.length Gc0, .slice G1 r2.length Gc1, .slice G2 r3.length Gc2] 27, rp w.heap.size I0 r1.length Ic0 s1 I1 r2.length Ic1 s2 I2 r3.length Ic2 s3, rbox g10 #[.slice I0 r1.length Ic0, .slice I1 r2.length Ic1, .slice I2 r3.length Ic2] 27] ++ [rp w.heap.size (s_.2.2.1.1) r1.length (s_.2.2.1.2.1) r1 (s_.2.2.1.2.2.1) r2.length (s_.2.2.1.2.2.2.1) r2 (s_.2.2.1.2.2.2.2.1) r3.length (s_.2.2.1.2.2.2.2.2) r3, rbox s_.2.2.2 #[.slice none 0 0, .slice none 0 0, .slice none 0 0] 27])) ?_ ?_
 rotate_left
 {
 intro hCont
 refine two_ (i := 1) (j := 8) (Ni := some 96) (Nj := some 15) m4_ m5_ rfl rfl rfl rfl (two_of HT_.out s2_) (by decide) (by decide) (fun K hK => ?_) (fun K hK => ?_)
 {
 refine goes_ Try.func26 s2_ rfl #[.agg #[.slice A0_0 l0_0.length c0_0, .slice A0_1 l0_1.length c0_1, .slice A0_2 l0_2.length c0_2]] (by rfl) rfl rfl s3_ ?_
 refine (toP k a b c P hr0_0 hc0_0 hr0_1 hc0_1 hr0_2 hc0_2 hTA).mono ?_
 clear P
 rintro e w1 ⟨B0, Bc0, B1, Bc1, B2, Bc2, rfl, P⟩
 refine ⟨_, rfl, ?_⟩
 refine hK.out _ _ ⟨P.held3 0 rfl, P.held3 1 rfl⟩ (fun hHeld => ?_)
 clear hK K
 refine norm_ (a' := ?_) ?_ ?_; rotate_left; { show Act.put _ (some 96) _ = _; simp only [Act.put, List.setIfInBounds_toArray, List.set_cons_zero, List.set_cons_succ, i64_w, i32_w]; rfl }
 refine two_ (i := 3) (j := 8) (Ni := some 98) (Nj := some 15) m6_ m7_ rfl rfl rfl rfl (two_of HT_.out s2_) (by decide) (by decide) (fun K hK => ?_) (fun K hK => ?_)
 {
 refine goes_ Try.func26 s2_ rfl #[.agg #[.slice A1_0 l1_0.length c1_0, .slice A1_1 l1_1.length c1_1, .slice A1_2 l1_2.length c1_2]] (by rfl) rfl rfl s3_ ?_
 refine (toP k x y z P hr1_0 hc1_0 hr1_1 hc1_1 hr1_2 hc1_2 hTB).mono ?_
 clear P
 rintro e w1 ⟨D0, Dc0, D1, Dc1, D2, Dc2, rfl, P⟩
 refine ⟨_, rfl, ?_⟩
 refine hK.out _ _ ⟨P.held3 0 rfl, P.held3 1 rfl⟩ (fun hHeld => ?_)
 clear hK K
 refine norm_ (a' := ?_) ?_ ?_; rotate_left; { show Act.put _ (some 98) _ = _; simp only [Act.put, List.setIfInBounds_toArray, List.set_cons_zero, List.set_cons_succ, i64_w, i32_w]; rfl }
 refine two_ (i := 4) (j := 8) (Ni := some 99) (Nj := some 15) m8_ m9_ rfl rfl rfl rfl (two_of HT_.out s2_) (by decide) (by decide) (fun K hK => ?_) (fun K hK => ?_)
 {
 refine goes_ Try.func37 s2_ rfl #[.agg #[.slice B0 a.length Bc0, .slice B1 b.length Bc1, .slice B2 c.length Bc2], .agg #[.slice D0 x.length Dc0, .slice D1 y.length Dc1, .slice D2 z.length Dc2]] (by rfl) rfl rfl s3_ ?_
 refine (implJ k r1 r2 r3 rb P 6 7 rfl rfl hI).mono ?_
 clear P
 rintro e w1 ⟨R0, Rc0, R1, Rc1, R2, Rc2, rfl, P⟩
 refine ⟨_, rfl, ?_⟩
 refine hK.out _ _ ⟨P.held3 0 rfl, P.held3 1 rfl⟩ (fun hHeld => ?_)
 clear hK K
 refine norm_ (a' := ?_) ?_ ?_; rotate_left; { show Act.put _ (some 99) _ = _; simp only [Act.put, List.setIfInBounds_toArray, List.set_cons_zero, List.set_cons_succ, i64_w, i32_w]; rfl }
 refine pu_ 5 94 m10_ (any_of HT_.out s2_) ?_
 refine pu_ 6 100 m11_ (any_of HT_.out s2_) ?_
 refine pu_ 7 101 m12_ (any_of HT_.out s2_) ?_
 refine one_ (i := 8) (N := some 15) m3_ rfl rfl (one_of HT_.out s2_) (by decide) (fun K hK => ?_)
 refine box_step ?hg (N := 15) ?hd (cs := #[.slice none 0 0, .slice none 0 0, .slice none 0 0]) (t := 27) ?hr ?_; (case hd => rfl); (case hg => rfl); (case hr => first | (go_simp; done) | (go_simp; rfl))
 intro g15 hg w1 hbox hb
 replace P := P.box hg hbox hb
 clear hb hbox hg
 refine hK.out _ _ ⟨P.held3 0 rfl, P.held3 1 rfl⟩ (fun hHeld => ?_)
 clear hK K
 refine norm_ (a' := ?_) ?_ ?_; rotate_left; { show Act.put _ (some 15) _ = _; simp only [Act.put, List.setIfInBounds_toArray, List.set_cons_zero, List.set_cons_succ, i64_w, i32_w]; rfl }
 exact norm_ (by simp only [putAll, Act.put, List.setIfInBounds_toArray, List.set_cons_zero, List.set_cons_succ]) (hCont (⟨B0, Bc0, B1, Bc1, B2, Bc2⟩, ⟨D0, Dc0, D1, Dc1, D2, Dc2⟩, ⟨R0, Rc0, R1, Rc1, R2, Rc2⟩, g15) _ (P.pick [0, 1, 2, 3, 4, 5, 8, 9] _ (by decide) rfl))}
 {
 refine box_step ?hg (N := 15) ?hd (cs := #[.slice none 0 0, .slice none 0 0, .slice none 0 0]) (t := 27) ?hr ?_; (case hd => rfl); (case hg => rfl); (case hr => first | (go_simp; done) | (go_simp; rfl))
 intro g15 hg w1 hbox hb
 replace P := P.box hg hbox hb
 clear hb hbox hg
 refine hK.out _ _ ⟨P.held3 0 rfl, P.held3 1 rfl⟩ (fun hHeld => ?_)
 clear hK K
 refine norm_ (a' := ?_) ?_ ?_; rotate_left; { show Act.put _ (some 15) _ = _; simp only [Act.put, List.setIfInBounds_toArray, List.set_cons_zero, List.set_cons_succ, i64_w, i32_w]; rfl }
 refine one_ (i := 4) (N := some 99) m13_ rfl rfl (one_of HT_.out s2_) (by decide) (fun K hK => ?_)
 refine goes_ Try.func37 s2_ rfl #[.agg #[.slice B0 a.length Bc0, .slice B1 b.length Bc1, .slice B2 c.length Bc2], .agg #[.slice D0 x.length Dc0, .slice D1 y.length Dc1, .slice D2 z.length Dc2]] (by rfl) rfl rfl s3_ ?_
 refine (implJ k r1 r2 r3 rb P 6 7 rfl rfl hI).mono ?_
 clear P
 rintro e w1 ⟨R0, Rc0, R1, Rc1, R2, Rc2, rfl, P⟩
 refine ⟨_, rfl, ?_⟩
 refine hK.out _ _ ⟨P.held3 0 rfl, P.held3 1 rfl⟩ (fun hHeld => ?_)
 clear hK K
 refine norm_ (a' := ?_) ?_ ?_; rotate_left; { show Act.put _ (some 99) _ = _; simp only [Act.put, List.setIfInBounds_toArray, List.set_cons_zero, List.set_cons_succ, i64_w, i32_w]; rfl }
 refine pu_ 5 94 m14_ (any_of HT_.out s2_) ?_
 refine pu_ 6 100 m15_ (any_of HT_.out s2_) ?_
 refine pu_ 7 101 m3_ (any_of HT_.out s2_) ?_
 exact norm_ (by simp only [putAll, Act.put, List.setIfInBounds_toArray, List.set_cons_zero, List.set_cons_succ]) (hCont (⟨B0, Bc0, B1, Bc1, B2, Bc2⟩, ⟨D0, Dc0, D1, Dc1, D2, Dc2⟩, ⟨R0, Rc0, R1, Rc1, R2, Rc2⟩, g15) _ (P.pick [0, 1, 2, 3, 4, 5, 9, 8] _ (by decide) rfl))}}
 {
 refine box_step ?hg (N := 15) ?hd (cs := #[.slice none 0 0, .slice none 0 0, .slice none 0 0]) (t := 27) ?hr ?_; (case hd => rfl); (case hg => rfl); (case hr => first | (go_simp; done) | (go_simp; rfl))
 intro g15 hg w1 hbox hb
 replace P := P.box hg hbox hb
 clear hb hbox hg
 refine hK.out _ _ ⟨P.held3 0 rfl, P.held3 1 rfl⟩ (fun hHeld => ?_)
 clear hK K
 refine norm_ (a' := ?_) ?_ ?_; rotate_left; { show Act.put _ (some 15) _ = _; simp only [Act.put, List.setIfInBounds_toArray, List.set_cons_zero, List.set_cons_succ, i64_w, i32_w]; rfl }
 refine one_ (i := 3) (N := some 98) m9_ rfl rfl (one_of HT_.out s2_) (by decide) (fun K hK => ?_)
 refine goes_ Try.func26 s2_ rfl #[.agg #[.slice A1_0 l1_0.length c1_0, .slice A1_1 l1_1.length c1_1, .slice A1_2 l1_2.length c1_2]] (by rfl) rfl rfl s3_ ?_
 refine (toP k x y z P hr1_0 hc1_0 hr1_1 hc1_1 hr1_2 hc1_2 hTB).mono ?_
 clear P
 rintro e w1 ⟨D0, Dc0, D1, Dc1, D2, Dc2, rfl, P⟩
 refine ⟨_, rfl, ?_⟩
 refine hK.out _ _ ⟨P.held3 0 rfl, P.held3 1 rfl⟩ (fun hHeld => ?_)
 clear hK K
 refine norm_ (a' := ?_) ?_ ?_; rotate_left; { show Act.put _ (some 98) _ = _; simp only [Act.put, List.setIfInBounds_toArray, List.set_cons_zero, List.set_cons_succ, i64_w, i32_w]; rfl }
 refine one_ (i := 4) (N := some 99) m13_ rfl rfl (one_of HT_.out s2_) (by decide) (fun K hK => ?_)
 refine goes_ Try.func37 s2_ rfl #[.agg #[.slice B0 a.length Bc0, .slice B1 b.length Bc1, .slice B2 c.length Bc2], .agg #[.slice D0 x.length Dc0, .slice D1 y.length Dc1, .slice D2 z.length Dc2]] (by rfl) rfl rfl s3_ ?_
 refine (implJ k r1 r2 r3 rb P 6 8 rfl rfl hI).mono ?_
 clear P
 rintro e w1 ⟨R0, Rc0, R1, Rc1, R2, Rc2, rfl, P⟩
 refine ⟨_, rfl, ?_⟩
 refine hK.out _ _ ⟨P.held3 0 rfl, P.held3 1 rfl⟩ (fun hHeld => ?_)
 clear hK K
 refine norm_ (a' := ?_) ?_ ?_; rotate_left; { show Act.put _ (some 99) _ = _; simp only [Act.put, List.setIfInBounds_toArray, List.set_cons_zero, List.set_cons_succ, i64_w, i32_w]; rfl }
 refine pu_ 5 94 m14_ (any_of HT_.out s2_) ?_
 refine pu_ 6 100 m15_ (any_of HT_.out s2_) ?_
 refine pu_ 7 101 m3_ (any_of HT_.out s2_) ?_
 exact norm_ (by simp only [putAll, Act.put, List.setIfInBounds_toArray, List.set_cons_zero, List.set_cons_succ]) (hCont (⟨B0, Bc0, B1, Bc1, B2, Bc2⟩, ⟨D0, Dc0, D1, Dc1, D2, Dc2⟩, ⟨R0, Rc0, R1, Rc1, R2, Rc2⟩, g15) _ (P.pick [0, 1, 2, 3, 4, 5, 9, 7] _ (by decide) rfl))}}
 {
 refine box_step ?hg (N := 15) ?hd (cs := #[.slice none 0 0, .slice none 0 0, .slice none 0 0]) (t := 27) ?hr ?_; (case hd => rfl); (case hg => rfl); (case hr => first | (go_simp; done) | (go_simp; rfl))
 intro g15 hg w1 hbox hb
 replace P := P.box hg hbox hb
 clear hb hbox hg
 refine hK.out _ _ ⟨P.held3 0 rfl, P.held3 1 rfl⟩ (fun hHeld => ?_)
 clear hK K
 refine norm_ (a' := ?_) ?_ ?_; rotate_left; { show Act.put _ (some 15) _ = _; simp only [Act.put, List.setIfInBounds_toArray, List.set_cons_zero, List.set_cons_succ, i64_w, i32_w]; rfl }
 refine one_ (i := 1) (N := some 96) m7_ rfl rfl (one_of HT_.out s2_) (by decide) (fun K hK => ?_)
 refine goes_ Try.func26 s2_ rfl #[.agg #[.slice A0_0 l0_0.length c0_0, .slice A0_1 l0_1.length c0_1, .slice A0_2 l0_2.length c0_2]] (by rfl) rfl rfl s3_ ?_
 refine (toP k a b c P hr0_0 hc0_0 hr0_1 hc0_1 hr0_2 hc0_2 hTA).mono ?_
 clear P
 rintro e w1 ⟨B0, Bc0, B1, Bc1, B2, Bc2, rfl, P⟩
 refine ⟨_, rfl, ?_⟩
 refine hK.out _ _ ⟨P.held3 0 rfl, P.held3 1 rfl⟩ (fun hHeld => ?_)
 clear hK K
 refine norm_ (a' := ?_) ?_ ?_; rotate_left; { show Act.put _ (some 96) _ = _; simp only [Act.put, List.setIfInBounds_toArray, List.set_cons_zero, List.set_cons_succ, i64_w, i32_w]; rfl }
 refine one_ (i := 3) (N := some 98) m9_ rfl rfl (one_of HT_.out s2_) (by decide) (fun K hK => ?_)
 refine goes_ Try.func26 s2_ rfl #[.agg #[.slice A1_0 l1_0.length c1_0, .slice A1_1 l1_1.length c1_1, .slice A1_2 l1_2.length c1_2]] (by rfl) rfl rfl s3_ ?_
 refine (toP k x y z P hr1_0 hc1_0 hr1_1 hc1_1 hr1_2 hc1_2 hTB).mono ?_
 clear P
 rintro e w1 ⟨D0, Dc0, D1, Dc1, D2, Dc2, rfl, P⟩
 refine ⟨_, rfl, ?_⟩
 refine hK.out _ _ ⟨P.held3 0 rfl, P.held3 1 rfl⟩ (fun hHeld => ?_)
 clear hK K
 refine norm_ (a' := ?_) ?_ ?_; rotate_left; { show Act.put _ (some 98) _ = _; simp only [Act.put, List.setIfInBounds_toArray, List.set_cons_zero, List.set_cons_succ, i64_w, i32_w]; rfl }
 refine one_ (i := 4) (N := some 99) m13_ rfl rfl (one_of HT_.out s2_) (by decide) (fun K hK => ?_)
 refine goes_ Try.func37 s2_ rfl #[.agg #[.slice B0 a.length Bc0, .slice B1 b.length Bc1, .slice B2 c.length Bc2], .agg #[.slice D0 x.length Dc0, .slice D1 y.length Dc1, .slice D2 z.length Dc2]] (by rfl) rfl rfl s3_ ?_
 refine (implJ k r1 r2 r3 rb P 7 8 rfl rfl hI).mono ?_
 clear P
 rintro e w1 ⟨R0, Rc0, R1, Rc1, R2, Rc2, rfl, P⟩
 refine ⟨_, rfl, ?_⟩
 refine hK.out _ _ ⟨P.held3 0 rfl, P.held3 1 rfl⟩ (fun hHeld => ?_)
 clear hK K
 refine norm_ (a' := ?_) ?_ ?_; rotate_left; { show Act.put _ (some 99) _ = _; simp only [Act.put, List.setIfInBounds_toArray, List.set_cons_zero, List.set_cons_succ, i64_w, i32_w]; rfl }
 refine pu_ 5 94 m14_ (any_of HT_.out s2_) ?_
 refine pu_ 6 100 m15_ (any_of HT_.out s2_) ?_
 refine pu_ 7 101 m3_ (any_of HT_.out s2_) ?_
 exact norm_ (by simp only [putAll, Act.put, List.setIfInBounds_toArray, List.set_cons_zero, List.set_cons_succ]) (hCont (⟨B0, Bc0, B1, Bc1, B2, Bc2⟩, ⟨D0, Dc0, D1, Dc1, D2, Dc2⟩, ⟨R0, Rc0, R1, Rc1, R2, Rc2⟩, g15) _ (P.pick [0, 1, 2, 3, 4, 5, 9, 6] _ (by decide) rfl))}}
 clear P hHeld hL
 rintro ⟨⟨B0, Bc0, B1, Bc1, B2, Bc2⟩, ⟨D0, Dc0, D1, Dc1, D2, Dc2⟩, ⟨H0, Hc0, H1, Hc1, H2, Hc2⟩, g15⟩ w1 P
 refine norm_ (a' := ?_) ?_ ?_; rotate_left; { simp only [putAll, Act.put, List.setIfInBounds_toArray, List.set_cons_zero, List.set_cons_succ]; rfl }
 refine one_ (i := 9) (N := none) m16_ rfl rfl (one_of HT_.out s2_) (by decide) (fun K hK => ?_)
 obtain ⟨ce0, ce1, ce2, fe0, fe1, fe2⟩ := P.c3 7 rfl
 have P2 := P.set3 (x := .slice H0 r1.length Hc0) (y := .slice H1 r2.length Hc1) (z := .slice H2 r3.length Hc2) 7 rfl (P.base 7 rfl)
 refine skip_ (w1 := ?_) (by rfl) rfl ?_ ?_; rotate_left; { go_simp; rfl }
 refine hK.out _ _ ⟨P2.held3 0 rfl, P2.held3 1 rfl⟩ (fun hHeld => ?_)
 clear hK K P ce0 ce1 ce2 fe0 fe1 fe2
 revert P2; generalize World.setCell _ _ _ = w1; intro P
 refine pu_ 10 16 m17_ (any_of HT_.out s2_) ?_
 refine done_ (done_of HT_.out s2_) ?_
 obtain ⟨ce0, ce1, ce2, fe0, fe1, fe2⟩ := P.c3 7 rfl; obtain ⟨ce0b, ce1b, ce2b, fe0b, fe1b, fe2b⟩ := P.c3 3 rfl
 go_wp2_with (first | ((with_reducible refine gate_callee (f := 27) rfl ?_); refine goesL_ (some 104) rfl rfl Try.func27 s2_ rfl #[.agg #[.slice H0 r1.length Hc0, .slice H1 r2.length Hc1, .slice H2 r3.length Hc2], .agg #[.slice G0 r1.length Gc0, .slice G1 r2.length Gc1, .slice G2 r3.length Gc2]] rfl s3_ ?_; refine (eqP k true P 6 2 rfl rfl hE).mono ?_; clear P; rintro e w1 ⟨rfl, P⟩; refine ⟨_, rfl, ?_⟩; obtain ⟨ce0, ce1, ce2, fe0, fe1, fe2⟩ := P.c3 5 rfl) | ((with_reducible refine gate_callee (f := 29) rfl ?_); refine goesL_ (some 113) rfl rfl Try.func29 s2_ rfl #[.agg #[.slice I0 r1.length Ic0, .slice I1 r2.length Ic1, .slice I2 r3.length Ic2], .int .i64 1] rfl s3_ ?_; refine (heldP k 1 q1 P 4 rfl hH).mono ?_; clear P; rintro e w1 ⟨rfl, P⟩; refine ⟨_, rfl, ?_⟩))
 go_ret
 exact ⟨rfl, P.1⟩

end Go.Proofs.Ytgfilednbllkmaa.QFnExactJoinPresence
