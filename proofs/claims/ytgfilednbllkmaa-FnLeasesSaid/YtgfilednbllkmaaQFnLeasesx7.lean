-- by hand, over one pool
import Derived.Test.YtgfilednbllkmaaQFnLeasesx1
import Derived.Test.YtgfilednbllkmaaQFnLeasesx3
import Derived.Test.YtgfilednbllkmaaQFnLeasesx5
import Derived.Test.YtgfilednbllkmaaQFnLeasesx6
namespace Go.Proofs.Ytgfilednbllkmaa.QFnJoinedPresence
open Go.RowKit Go.Proofs.YtgfilednbllkmaaW.PrintWords Go.Proofs.YtgfilednbllkmaaW.PrintLast Go.Proofs.YtgfilednbllkmaaW.PrintMore
attribute [local go_sem] max2_int min2_int max_two min_two max_three min_three max_four min_four   -- for this text's walks alone
set_option linter.unusedVariables false
set_option linter.unusedSimpArgs false
/-- What a heartbeat comes to, where it is let through. -/
def BeatOk (k : Nat) (a b : List S63) (c : List S73) (mem now tk : Int) (h : List S63) : Prop := impl_ValidPresence.f k a b c = some true ∧ impl_clonePresence.f a b c = some (a, b, c) ∧ impl_leased_n44.f k a mem (wrap64 (now + tk)) = some h ∧ impl_isTick.f now = some true ∧ impl_in.f tk 1 1000 = some true ∧ impl_isTick.f (wrap64 (now + tk)) = some true ∧ impl_ValidPresence.f k h b c = some true
def TypeOk (k : Nat) (a b : List S63) (c : List S73) (mem now u : Int) (t : List S63) : Prop := impl_ValidPresence.f k a b c = some true ∧ impl_clonePresence.f a b c = some (a, b, c) ∧ impl_until.f k a mem = some u ∧ decide (u > now) = true ∧ impl_leased_n44.f k b mem (wrap64 (now + 6)) = some t ∧ impl_isTick.f now = some true ∧ impl_isTick.f (wrap64 (now + 6)) = some true ∧ impl_ValidPresence.f k a t c = some true
def LeaveOk (k : Nat) (a b : List S63) (c : List S73) (mem : Int) (h t : List S63) : Prop := impl_ValidPresence.f k a b c = some true ∧ impl_clonePresence.f a b c = some (a, b, c) ∧ impl_dropLeases_v2.f k a mem = some h ∧ impl_dropLeases_v2.f k b mem = some t ∧ decide (wrap64 ((h.length : Int) + (t.length : Int)) < wrap64 ((a.length : Int) + (b.length : Int))) = true ∧ impl_ValidPresence.f k h t c = some true
def NextOk (k : Nat) (a b : List S63) (c : List S73) (now : Int) (ty : List S63) (r : Int) : Prop := impl_ValidPresence.f k a b c = some true ∧ impl_isTick.f now = some true ∧ impl_Presence_typists.f k a b c = some ty ∧ a.length ≤ 100 ∧ ty.length ≤ 100 ∧ bestV now (a ++ ty) (-1) = r
/-- What is told of one moment behind now: as it was, but at the change. -/
def laws_FnLeases.At (k : Nat) (a b : List S63) (c : List S73) (x0 y0 : List Int) (ten : Bool) (nx t : Int) : Prop :=
  ∃ x y s1 s2, impl_PresentAt.f k a b c t = some (x, true) ∧ impl_TypingAt.f k a b c t = some (y, true) ∧ laws_b10Nums.f k x0 x = some s1 ∧ laws_b10Nums.f k y0 y = some s2 ∧ (s1 && s2) = !(ten && decide (t = nx))
def laws_FnLeases.Tail (k : Nat) (a b : List S63) (c : List S73) (now : Int) (ten : Bool) (nx : Int) : Prop :=
  ¬ nx ≤ now ∧ ¬ nx > wrap64 (now + 100) ∧ ∃ x0 y0, impl_PresentAt.f k a b c now = some (x0, true) ∧ impl_TypingAt.f k a b c now = some (y0, true) ∧ y0.length ≤ 1000 ∧ (∀ i : Int, 0 ≤ i → i < (y0.length : Int) → laws_b10Has.f k x0 (rd y0 i) = some true) ∧ ∀ t : Int, now < t → t ≤ nx → laws_FnLeases.At k a b c x0 y0 ten nx t
/-- All that the law calls answers, where it ends well. -/
def laws_FnLeases.Main (k : Nat) (l0 l1 : List Int) : Prop :=
  ∃ p0 p1 p2 m now q h u t h3 t3 x1 x2 x3 x4 x5 x6 v ty r s, spec_B10Presence.f k l0 = some (p0, p1, p2) ∧ laws_b10At.f l1 0 6 = some m ∧ laws_b10At.f l1 1 20 = some now ∧ laws_b10At.f l1 2 10 = some q ∧ 0 ≤ now ∧ now < 20 ∧
    BeatOk k p0 p1 p2 (wrap64 (1 + m)) now (wrap64 (1 + q)) h ∧ impl_PresentAt.f k h p1 p2 (wrap64 ((wrap64 (now + (wrap64 (1 + q)))) - 1)) = some (x1, true) ∧ TypeOk k h p1 p2 (wrap64 (1 + m)) now u t ∧ impl_TypingAt.f k h t p2 now = some (x2, true) ∧ LeaveOk k h t p2 (wrap64 (1 + m)) h3 t3 ∧ impl_PresentAt.f k h3 t3 p2 now = some (x3, true) ∧ impl_TypingAt.f k h3 t3 p2 now = some (x4, true) ∧
    impl_ValidPresence.f k h p1 p2 = some true ∧ laws_b10Has.f k x1 (wrap64 (1 + m)) = some true ∧ laws_b10Has.f k x2 (wrap64 (1 + m)) = some true ∧ laws_b10Has.f k x3 (wrap64 (1 + m)) = some false ∧ laws_b10Has.f k x4 (wrap64 (1 + m)) = some false ∧
    impl_PresentAt.f k p0 p1 p2 (wrap64 (now + (wrap64 (1 + q)))) = some (x5, true) ∧ impl_PresentAt.f k h p1 p2 (wrap64 (now + (wrap64 (1 + q)))) = some (x6, true) ∧ laws_b10Has.f k x6 (wrap64 (1 + m)) = some v ∧ laws_b10Has.f k x5 (wrap64 (1 + m)) = some v ∧
    NextOk k p0 p1 p2 now ty r ∧ (r < 0 ∧ spec_NextChange.f k p0 p1 p2 now = some (s, false) ∧ laws_FnLeases.Tail k p0 p1 p2 now false (wrap64 (now + 40)) ∨ ¬ r < 0 ∧ spec_NextChange.f k p0 p1 p2 now = some (s, true) ∧ laws_FnLeases.Tail k p0 p1 p2 now true r)
def laws_FnLeases.Ans (k : Nat) (l0 l1 : List Int) : Prop := laws_b10Long.f l0 l1 = some true ∨ laws_b10Long.f l0 l1 = some false ∧ laws_FnLeases.Main k l0 l1
section
variable {w0 w w1 : World} {L : List Res} {A0 A1 A2 B0 B1 B2 : Option Addr} {n0 n1 n2 c0 c1 c2 m0 m1 m2 d0 d1 d2 : Nat} {a : List S63} {b : List S63} {c : List S73} {x y : List S63} {z : List S73}
theorem longW (l0 l1 : List Int) (r : Bool) (P : Pool w0 w L) (hr0 : Kd.C (Kd.int .u8) w0 A0 l0.length l0) (hc0 : l0.length ≤ c0) (hr1 : Kd.C (Kd.int .u8) w0 A1 l1.length l1) (hc1 : l1.length ≤ c1) (h : laws_b10Long.f l0 l1 = some r) :
    Calls Try.prog 11 #[.slice A0 l0.length c0, .slice A1 l1.length c1] w fun e w' => e = .returned (.bool r) ∧ Pool w0 w' L := by
  refine (laws_b10Long.calls _ _ l0 _ _ l1 r w (Kd.C_below hr0 P.1) hc0 (Kd.C_below hr1 P.1) hc1 h).mono ?_
  rintro e w' ⟨rfl, hb⟩
  exact ⟨rfl, P.below hb.below⟩
theorem atW (l0 : List Int) (p q r : Int) (P : Pool w0 w L) (hr0 : Kd.C (Kd.int .u8) w0 A0 l0.length l0) (hc0 : l0.length ≤ c0) (h : laws_b10At.f l0 p q = some r) :
    Calls Try.prog 13 #[.slice A0 l0.length c0, .int .i64 p, .int .i64 q] w fun e w' => e = .returned (.int .i64 r) ∧ Pool w0 w' L := by
  refine (laws_b10At.calls _ _ l0 p q r w (Kd.C_below hr0 P.1) hc0 h).mono ?_
  rintro e w' ⟨rfl, hb⟩
  exact ⟨rfl, P.below hb.below⟩
theorem presW (k : Nat) (l0 : List Int) (a b : List S63) (c : List S73) (P : Pool w0 w L) (hr0 : Kd.C (Kd.int .u8) w0 A0 l0.length l0) (hc0 : l0.length ≤ c0) (h : spec_B10Presence.f k l0 = some (a, b, c)) :
    Calls Try.prog 12 #[.slice A0 l0.length c0] w fun e w' => ∃ D0 e0 D1 e1 D2 e2, e = .returned (.agg #[.slice D0 a.length e0, .slice D1 b.length e1, .slice D2 c.length e2]) ∧ Pool w0 w' (L ++ [rp w0.heap.size D0 a.length e0 a D1 b.length e1 b D2 c.length e2 c]) := by
  refine (spec_B10Presence.calls k _ _ l0 a b c w (Kd.C_below hr0 P.1) hc0 h).mono ?_
  rintro e w' ⟨v0, v1, v2, rfl, g0, g1, g2, hb⟩
  obtain ⟨D0, e0, D1, e1, D2, e2, rfl, rfl, rfl, hP⟩ := rp_new P hb g0 g1 g2 (fun _ hk => hk)
  exact ⟨D0, e0, D1, e1, D2, e2, rfl, hP⟩
theorem validP (k : Nat) (r : Bool) (P : Pool w0 w L) (i : Nat) (hi : L[i]? = some (rp w0.heap.size A0 n0 c0 a A1 n1 c1 b A2 n2 c2 c)) (h : impl_ValidPresence.f k a b c = some r) :
    Calls Try.prog 19 #[.agg #[.slice A0 n0 c0, .slice A1 n1 c1, .slice A2 n2 c2]] w fun e w' => e = .returned (.bool r) ∧ Pool w0 w' L := by
  obtain ⟨rfl, rfl, rfl⟩ := rp_at P i hi
  have h1 := rp_c P i hi
  refine (impl_ValidPresence.calls k _ _ a _ _ b _ _ c r w h1.1 h1.2.1 h1.2.2.1 h1.2.2.2.1 h1.2.2.2.2.1 h1.2.2.2.2.2 h).mono ?_
  rintro e w' ⟨rfl, hb⟩
  exact ⟨rfl, P.below hb⟩
theorem newrow {v : Value} {r : List Int} (P : Pool w0 w L) (hb : Below w.heap.size w w1) (g : Kd.R (Kd.int .i64) 2 w1 w.heap.size (fun _ => True) v r) : ∃ D e0, v = .slice D r.length e0 ∧ Pool w0 w1 (L ++ [rrow (Kd.int .i64) 2 w0.heap.size (.slice D r.length e0) r]) := by
  obtain ⟨D, e0, rfl⟩ := Kd.R_slice g
  exact ⟨D, e0, rfl, P.add hb _ (Kd.R_lower (Kd.R_mono (Kd.R_bound (Kd.R_tight rfl g)) (fun k hk => ⟨⟨hk.2.1, hk.2.2.1⟩, hk.1⟩)) (below_size P.1))⟩
theorem presentR (k : Nat) (r : List Int) (r4 : Bool) (now : Int) (P : Pool w0 w L) (i : Nat) (hi : L[i]? = some (rp w0.heap.size A0 n0 c0 a A1 n1 c1 b A2 n2 c2 c)) (h : impl_PresentAt.f k a b c now = some (r, r4)) :
    Calls Try.prog 15 #[.agg #[.slice A0 n0 c0, .slice A1 n1 c1, .slice A2 n2 c2], .int .i64 now] w fun e w' => ∃ D e0, e = .returned (.tuple #[.slice D r.length e0, .bool r4]) ∧ Pool w0 w' (L ++ [rrow (Kd.int .i64) 2 w0.heap.size (.slice D r.length e0) r]) := by
  obtain ⟨rfl, rfl, rfl⟩ := rp_at P i hi
  have h1 := rp_c P i hi
  refine (impl_PresentAt.calls k _ _ a _ _ b _ _ c now r r4 w h1.1 h1.2.1 h1.2.2.1 h1.2.2.2.1 h1.2.2.2.2.1 h1.2.2.2.2.2 h).mono ?_
  rintro e w' ⟨v, rfl, g, hb⟩
  obtain ⟨D, e0, rfl, hP⟩ := newrow P hb g
  exact ⟨D, e0, rfl, hP⟩
theorem typingR (k : Nat) (r : List Int) (r4 : Bool) (now : Int) (P : Pool w0 w L) (i : Nat) (hi : L[i]? = some (rp w0.heap.size A0 n0 c0 a A1 n1 c1 b A2 n2 c2 c)) (h : impl_TypingAt.f k a b c now = some (r, r4)) :
    Calls Try.prog 17 #[.agg #[.slice A0 n0 c0, .slice A1 n1 c1, .slice A2 n2 c2], .int .i64 now] w fun e w' => ∃ D e0, e = .returned (.tuple #[.slice D r.length e0, .bool r4]) ∧ Pool w0 w' (L ++ [rrow (Kd.int .i64) 2 w0.heap.size (.slice D r.length e0) r]) := by
  obtain ⟨rfl, rfl, rfl⟩ := rp_at P i hi
  have h1 := rp_c P i hi
  refine (impl_TypingAt.calls k _ _ a _ _ b _ _ c now r r4 w h1.1 h1.2.1 h1.2.2.1 h1.2.2.2.1 h1.2.2.2.2.1 h1.2.2.2.2.2 h).mono ?_
  rintro e w' ⟨v, rfl, g, hb⟩
  obtain ⟨D, e0, rfl, hP⟩ := newrow P hb g
  exact ⟨D, e0, rfl, hP⟩
theorem numsR (k : Nat) (x y : List Int) (r : Bool) (P : Pool w0 w L) (i j : Nat) (hi : L[i]? = some (rrow (Kd.int .i64) 2 w0.heap.size (.slice A0 n0 c0) x)) (hj : L[j]? = some (rrow (Kd.int .i64) 2 w0.heap.size (.slice A1 n1 c1) y)) (h : laws_b10Nums.f k x y = some r) :
    Calls Try.prog 23 #[.slice A0 n0 c0, .slice A1 n1 c1] w fun e w' => e = .returned (.bool r) ∧ Pool w0 w' L := by
  obtain ⟨rfl, g0, h0⟩ := P.reads i hi
  obtain ⟨rfl, g1, h1⟩ := P.reads j hj
  refine (laws_b10Nums.calls k _ _ x _ _ y r w h0 g0 h1 g1 h).mono ?_
  rintro e w' ⟨rfl, hb⟩
  exact ⟨rfl, P.below hb.below⟩
theorem hasR (k : Nat) (x : List Int) (v : Int) (r : Bool) (P : Pool w0 w L) (i : Nat) (hi : L[i]? = some (rrow (Kd.int .i64) 2 w0.heap.size (.slice A0 n0 c0) x)) (h : laws_b10Has.f k x v = some r) :
    Calls Try.prog 20 #[.slice A0 n0 c0, .int .i64 v] w fun e w' => e = .returned (.bool r) ∧ Pool w0 w' L := by
  obtain ⟨rfl, g0, h0⟩ := P.reads i hi
  refine (laws_b10Has.calls k _ _ x v r w h0 g0 h).mono ?_
  rintro e w' ⟨rfl, hb⟩
  exact ⟨rfl, P.below hb.below⟩
theorem beatR (k : Nat) (mem now tk : Int) (h : List S63) (P : Pool w0 w L) (i : Nat) (hi : L[i]? = some (rp w0.heap.size A0 n0 c0 a A1 n1 c1 b A2 n2 c2 c)) (H : BeatOk k a b c mem now tk h) :
    Calls Try.prog 14 #[.agg #[.slice A0 n0 c0, .slice A1 n1 c1, .slice A2 n2 c2], .int .i64 mem, .int .i64 now, .int .i64 tk] w fun e w' => ∃ D0 e0 D1 e1 D2 e2, e = .returned (.tuple #[.agg #[.slice D0 h.length e0, .slice D1 b.length e1, .slice D2 c.length e2], .bool true]) ∧ Pool w0 w' (L ++ [rp w0.heap.size D0 h.length e0 h D1 b.length e1 b D2 c.length e2 c]) := by
  obtain ⟨rfl, rfl, rfl⟩ := rp_at P i hi
  have h1 := rp_c P i hi
  refine (impl_Heartbeat.pool k _ _ a _ _ b _ _ c mem now tk h w h1.1 h1.2.1 h1.2.2.1 h1.2.2.2.1 h1.2.2.2.2.1 h1.2.2.2.2.2 H.1 H.2.1 H.2.2.1 H.2.2.2.1 H.2.2.2.2.1 H.2.2.2.2.2.1 H.2.2.2.2.2.2).mono ?_
  rintro e w' ⟨D0, e0, D1, e1, D2, e2, rfl, Q⟩
  exact ⟨D0, e0, D1, e1, D2, e2, rfl, P.lift3 Q⟩
theorem typeR (k : Nat) (mem now u : Int) (t : List S63) (P : Pool w0 w L) (i : Nat) (hi : L[i]? = some (rp w0.heap.size A0 n0 c0 a A1 n1 c1 b A2 n2 c2 c)) (H : TypeOk k a b c mem now u t) :
    Calls Try.prog 16 #[.agg #[.slice A0 n0 c0, .slice A1 n1 c1, .slice A2 n2 c2], .int .i64 mem, .int .i64 now] w fun e w' => ∃ D0 e0 D1 e1 D2 e2, e = .returned (.tuple #[.agg #[.slice D0 a.length e0, .slice D1 t.length e1, .slice D2 c.length e2], .bool true]) ∧ Pool w0 w' (L ++ [rp w0.heap.size D0 a.length e0 a D1 t.length e1 t D2 c.length e2 c]) := by
  obtain ⟨rfl, rfl, rfl⟩ := rp_at P i hi
  have h1 := rp_c P i hi
  refine (impl_StartTyping.pool k _ _ a _ _ b _ _ c mem now u t w h1.1 h1.2.1 h1.2.2.1 h1.2.2.2.1 h1.2.2.2.2.1 h1.2.2.2.2.2 H.1 H.2.1 H.2.2.1 H.2.2.2.1 H.2.2.2.2.1 H.2.2.2.2.2.1 H.2.2.2.2.2.2.1 H.2.2.2.2.2.2.2).mono ?_
  rintro e w' ⟨D0, e0, D1, e1, D2, e2, rfl, Q⟩
  exact ⟨D0, e0, D1, e1, D2, e2, rfl, P.lift3 Q⟩
theorem leaveR (k : Nat) (mem : Int) (h t : List S63) (P : Pool w0 w L) (i : Nat) (hi : L[i]? = some (rp w0.heap.size A0 n0 c0 a A1 n1 c1 b A2 n2 c2 c)) (H : LeaveOk k a b c mem h t) :
    Calls Try.prog 18 #[.agg #[.slice A0 n0 c0, .slice A1 n1 c1, .slice A2 n2 c2], .int .i64 mem] w fun e w' => ∃ D0 e0 D1 e1 D2 e2, e = .returned (.tuple #[.agg #[.slice D0 h.length e0, .slice D1 t.length e1, .slice D2 c.length e2], .bool true]) ∧ Pool w0 w' (L ++ [rp w0.heap.size D0 h.length e0 h D1 t.length e1 t D2 c.length e2 c]) := by
  obtain ⟨rfl, rfl, rfl⟩ := rp_at P i hi
  have h1 := rp_c P i hi
  refine (impl_LeaveNow.pool k _ _ a _ _ b _ _ c mem h t w h1.1 h1.2.1 h1.2.2.1 h1.2.2.2.1 h1.2.2.2.2.1 h1.2.2.2.2.2 H.1 H.2.1 H.2.2.1 H.2.2.2.1 H.2.2.2.2.1 H.2.2.2.2.2).mono ?_
  rintro e w' ⟨D0, e0, D1, e1, D2, e2, rfl, Q⟩
  exact ⟨D0, e0, D1, e1, D2, e2, rfl, P.lift3 Q⟩
theorem nextN (k : Nat) (now : Int) (ty : List S63) (r : Int) (P : Pool w0 w L) (i : Nat) (hi : L[i]? = some (rp w0.heap.size A0 n0 c0 a A1 n1 c1 b A2 n2 c2 c)) (H : NextOk k a b c now ty r) (hr : r < 0) :
    Calls Try.prog 21 #[.agg #[.slice A0 n0 c0, .slice A1 n1 c1, .slice A2 n2 c2], .int .i64 now] w fun e w' => e = .returned (.tuple #[.int .i64 0, .bool false]) ∧ Pool w0 w' L := by
  obtain ⟨rfl, rfl, rfl⟩ := rp_at P i hi
  have h1 := rp_c P i hi
  refine (impl_NextChange.calls k _ _ a _ _ b _ _ c now ty w h1.1 h1.2.1 h1.2.2.1 h1.2.2.2.1 h1.2.2.2.2.1 h1.2.2.2.2.2 H.1 H.2.1 H.2.2.1 H.2.2.2.1 H.2.2.2.2.1 r H.2.2.2.2.2).mono ?_
  rintro e w' ⟨rfl, hb⟩
  exact ⟨by simp [hr], P.below hb⟩
theorem nextY (k : Nat) (now : Int) (ty : List S63) (r : Int) (P : Pool w0 w L) (i : Nat) (hi : L[i]? = some (rp w0.heap.size A0 n0 c0 a A1 n1 c1 b A2 n2 c2 c)) (H : NextOk k a b c now ty r) (hr : ¬ r < 0) :
    Calls Try.prog 21 #[.agg #[.slice A0 n0 c0, .slice A1 n1 c1, .slice A2 n2 c2], .int .i64 now] w fun e w' => e = .returned (.tuple #[.int .i64 r, .bool true]) ∧ Pool w0 w' L := by
  obtain ⟨rfl, rfl, rfl⟩ := rp_at P i hi
  have h1 := rp_c P i hi
  refine (impl_NextChange.calls k _ _ a _ _ b _ _ c now ty w h1.1 h1.2.1 h1.2.2.1 h1.2.2.2.1 h1.2.2.2.2.1 h1.2.2.2.2.2 H.1 H.2.1 H.2.2.1 H.2.2.2.1 H.2.2.2.2.1 r H.2.2.2.2.2).mono ?_
  rintro e w' ⟨rfl, hb⟩
  exact ⟨by simp [hr], P.below hb⟩
theorem specNextR (k : Nat) (now s : Int) (v : Bool) (P : Pool w0 w L) (i : Nat) (hi : L[i]? = some (rp w0.heap.size A0 n0 c0 a A1 n1 c1 b A2 n2 c2 c)) (H : spec_NextChange.f k a b c now = some (s, v)) :
    Calls Try.prog 22 #[.agg #[.slice A0 n0 c0, .slice A1 n1 c1, .slice A2 n2 c2], .int .i64 now] w fun e w' => e = .returned (.tuple #[.int .i64 s, .bool v]) ∧ Pool w0 w' L := by
  obtain ⟨rfl, rfl, rfl⟩ := rp_at P i hi
  have h1 := rp_c P i hi
  refine (spec_NextChange.calls k _ _ a _ _ b _ _ c now s v w h1.1 h1.2.1 h1.2.2.1 h1.2.2.2.1 h1.2.2.2.2.1 h1.2.2.2.2.2 H).mono ?_
  rintro e w' ⟨rfl, hb⟩
  exact ⟨rfl, P.below hb⟩
end
set_option maxHeartbeats 40000000 in
set_option maxRecDepth 100000 in
theorem laws_FnLeases.calls (k : Nat) (U0 : Option Addr) (u0 : Nat) (l0 : List Int) (U1 : Option Addr) (u1 : Nat) (l1 : List Int) (w : World) (hr0 : Kd.C (Kd.int .u8) w U0 l0.length l0) (hc0 : l0.length ≤ u0) (hr1 : Kd.C (Kd.int .u8) w U1 l1.length l1) (hc1 : l1.length ≤ u1) (H : laws_FnLeases.Ans k l0 l1) :
    Calls Try.prog 3 #[.slice U0 l0.length u0, .slice U1 l1.length u1] w fun e w' => e = .returned (.bool true) ∧ Below w.heap.size w w' := by
 have hu22 := Try.underlying22
 have hu27 := Try.underlying27
 have hu32 := Try.underlying32
 have hu63 := Try.underlying63
 have hu73 := Try.underlying73
 have P := Pool.nil w
 rcases H with hL | ⟨hL, H⟩
 {
 go_enter Try.func3, Try.ntmps3
 go_wp2_with (first | ((with_reducible refine gate_dst (N := 44) rfl ?_); (with_reducible refine gate_callee (f := 11) rfl ?_); refine goesL_ (some 44) rfl rfl Try.func11 s2_ rfl #[.slice U0 l0.length u0, .slice U1 l1.length u1] rfl s3_ ?_; refine (longW l0 l1 _ P hr0 hc0 hr1 hc1 hL).mono ?_; clear P; rintro e w1 ⟨rfl, P⟩; refine ⟨_, rfl, ?_⟩; (try simp only [List.nil_append, List.cons_append, List.set_cons_zero, List.set_cons_succ] at P)))
 go_ret
 exact ⟨rfl, P.1⟩
 }
 obtain ⟨p0, p1, p2, m, now, q, h, u, t, h3, t3, x1, x2, x3, x4, x5, x6, v, ty, r, s, hP, hM, hN, hQ, hn0, hn1, hB, hX1, hT, hX2, hG, hX3, hX4, hV, hH1, hH2, hH3, hH4, hX5, hX6, hH6, hH5, hNx, hTail⟩ := H
 have HN := Aside0.mk (And.intro hn0 hn1)
 clear hn0 hn1
 go_enter Try.func3, Try.ntmps3
 go_upto_region 14 with (first | ((with_reducible refine gate_dst (N := 44) rfl ?_); (with_reducible refine gate_callee (f := 11) rfl ?_); refine goesL_ (some 44) rfl rfl Try.func11 s2_ rfl #[.slice U0 l0.length u0, .slice U1 l1.length u1] rfl s3_ ?_; refine (longW l0 l1 _ P hr0 hc0 hr1 hc1 hL).mono ?_; clear P; rintro e w1 ⟨rfl, P⟩; refine ⟨_, rfl, ?_⟩; (try simp only [List.nil_append, List.cons_append, List.set_cons_zero, List.set_cons_succ] at P)) | ((with_reducible refine gate_dst (N := 46) rfl ?_); (with_reducible refine gate_callee (f := 12) rfl ?_); refine goesL_ (some 46) rfl rfl Try.func12 s2_ rfl #[.slice U0 l0.length u0] rfl s3_ ?_; refine (presW k l0 p0 p1 p2 P hr0 hc0 hP).mono ?_; clear P; rintro e w1 ⟨A0, Ac0, A1, Ac1, A2, Ac2, rfl, P⟩; refine ⟨_, rfl, ?_⟩; (try simp only [List.nil_append, List.cons_append, List.set_cons_zero, List.set_cons_succ] at P)) | ((with_reducible refine gate_dst (N := 5) rfl ?_); (try (refine gate_guard (by rfl) ?_; dsimp only)); refine bx_ 5 #[.slice none 0 0, .slice none 0 0, .slice none 0 0] 27 ?_; intro g5 hg w1 hbox hb; replace P := P.box hg hbox hb; clear hb hbox hg; (try simp only [List.nil_append, List.cons_append, List.set_cons_zero, List.set_cons_succ] at P); obtain ⟨ce0, ce1, ce2, fe0, fe1, fe2⟩ := P.c3 1 rfl) | ((with_reducible refine gate_store (p := 5) rfl ?_); refine st3 P 1 rfl rfl rfl rfl (by go_simp; rfl) ?_; clear P; intro w1 P; (try simp only [List.nil_append, List.cons_append, List.set_cons_zero, List.set_cons_succ] at P)) | ((with_reducible refine gate_dst (N := 48) rfl ?_); (with_reducible refine gate_callee (f := 13) rfl ?_); refine goesL_ (some 48) rfl rfl Try.func13 s2_ rfl #[.slice U1 l1.length u1, .int .i64 0, .int .i64 6] rfl s3_ ?_; refine (atW l1 0 6 m P hr1 hc1 hM).mono ?_; clear P; rintro e w1 ⟨rfl, P⟩; refine ⟨_, rfl, ?_⟩; (try simp only [List.nil_append, List.cons_append, List.set_cons_zero, List.set_cons_succ] at P)) | ((with_reducible refine gate_dst (N := 51) rfl ?_); (with_reducible refine gate_callee (f := 13) rfl ?_); refine goesL_ (some 51) rfl rfl Try.func13 s2_ rfl #[.slice U1 l1.length u1, .int .i64 1, .int .i64 20] rfl s3_ ?_; refine (atW l1 1 20 now P hr1 hc1 hN).mono ?_; clear P; rintro e w1 ⟨rfl, P⟩; refine ⟨_, rfl, ?_⟩; (try simp only [List.nil_append, List.cons_append, List.set_cons_zero, List.set_cons_succ] at P)) | ((with_reducible refine gate_dst (N := 53) rfl ?_); (with_reducible refine gate_callee (f := 13) rfl ?_); refine goesL_ (some 53) rfl rfl Try.func13 s2_ rfl #[.slice U1 l1.length u1, .int .i64 2, .int .i64 10] rfl s3_ ?_; refine (atW l1 2 10 q P hr1 hc1 hQ).mono ?_; clear P; rintro e w1 ⟨rfl, P⟩; refine ⟨_, rfl, ?_⟩; (try simp only [List.nil_append, List.cons_append, List.set_cons_zero, List.set_cons_succ] at P); obtain ⟨ce0, ce1, ce2, fe0, fe1, fe2⟩ := P.c3 1 rfl) | ((with_reducible refine gate_dst (N := 60) rfl ?_); (with_reducible refine gate_callee (f := 14) rfl ?_); refine goesL_ (some 60) rfl rfl Try.func14 s2_ rfl #[.agg #[.slice A0 p0.length Ac0, .slice A1 p1.length Ac1, .slice A2 p2.length Ac2], .int .i64 (wrap64 (1 + m)), .int .i64 now, .int .i64 (wrap64 (1 + q))] rfl s3_ ?_; refine (beatR k (wrap64 (1 + m)) now (wrap64 (1 + q)) h P 0 rfl hB).mono ?_; clear P; rintro e w1 ⟨B0, Bc0, B1, Bc1, B2, Bc2, rfl, P⟩; refine ⟨_, rfl, ?_⟩; (try simp only [List.nil_append, List.cons_append, List.set_cons_zero, List.set_cons_succ] at P)) | ((with_reducible refine gate_dst (N := 9) rfl ?_); (try (refine gate_guard (by rfl) ?_; dsimp only)); refine bx_ 9 #[.slice none 0 0, .slice none 0 0, .slice none 0 0] 27 ?_; intro g9 hg w1 hbox hb; replace P := P.box hg hbox hb; clear hb hbox hg; (try simp only [List.nil_append, List.cons_append, List.set_cons_zero, List.set_cons_succ] at P); obtain ⟨ce0, ce1, ce2, fe0, fe1, fe2⟩ := P.c3 3 rfl) | ((with_reducible refine gate_store (p := 9) rfl ?_); refine st3 P 3 rfl rfl rfl rfl (by go_simp; rfl) ?_; clear P; intro w1 P; (try simp only [List.nil_append, List.cons_append, List.set_cons_zero, List.set_cons_succ] at P); obtain ⟨ce0, ce1, ce2, fe0, fe1, fe2⟩ := P.c3 3 rfl) | ((with_reducible refine gate_dst (N := 69) rfl ?_); (with_reducible refine gate_callee (f := 15) rfl ?_); refine goesL_ (some 69) rfl rfl Try.func15 s2_ rfl #[.agg #[.slice B0 h.length Bc0, .slice B1 p1.length Bc1, .slice B2 p2.length Bc2], .int .i64 (wrap64 ((wrap64 (now + (wrap64 (1 + q)))) - 1))] rfl s3_ ?_; refine (presentR k x1 true (wrap64 ((wrap64 (now + (wrap64 (1 + q)))) - 1)) P 2 rfl hX1).mono ?_; clear P; rintro e w1 ⟨X1, X1c, rfl, P⟩; refine ⟨_, rfl, ?_⟩; (try simp only [List.nil_append, List.cons_append, List.set_cons_zero, List.set_cons_succ] at P); obtain ⟨ce0, ce1, ce2, fe0, fe1, fe2⟩ := P.c3 3 rfl) | ((with_reducible refine gate_dst (N := 76) rfl ?_); (with_reducible refine gate_callee (f := 16) rfl ?_); refine goesL_ (some 76) rfl rfl Try.func16 s2_ rfl #[.agg #[.slice B0 h.length Bc0, .slice B1 p1.length Bc1, .slice B2 p2.length Bc2], .int .i64 (wrap64 (1 + m)), .int .i64 now] rfl s3_ ?_; refine (typeR k (wrap64 (1 + m)) now u t P 2 rfl hT).mono ?_; clear P; rintro e w1 ⟨T0, Tc0, T1, Tc1, T2, Tc2, rfl, P⟩; refine ⟨_, rfl, ?_⟩; (try simp only [List.nil_append, List.cons_append, List.set_cons_zero, List.set_cons_succ] at P)) | ((with_reducible refine gate_dst (N := 13) rfl ?_); (try (refine gate_guard (by rfl) ?_; dsimp only)); refine bx_ 13 #[.slice none 0 0, .slice none 0 0, .slice none 0 0] 27 ?_; intro g13 hg w1 hbox hb; replace P := P.box hg hbox hb; clear hb hbox hg; (try simp only [List.nil_append, List.cons_append, List.set_cons_zero, List.set_cons_succ] at P); obtain ⟨ce0, ce1, ce2, fe0, fe1, fe2⟩ := P.c3 6 rfl) | ((with_reducible refine gate_store (p := 13) rfl ?_); refine st3 P 6 rfl rfl rfl rfl (by go_simp; rfl) ?_; clear P; intro w1 P; (try simp only [List.nil_append, List.cons_append, List.set_cons_zero, List.set_cons_succ] at P); obtain ⟨ce0, ce1, ce2, fe0, fe1, fe2⟩ := P.c3 6 rfl) | ((with_reducible refine gate_dst (N := 82) rfl ?_); (with_reducible refine gate_callee (f := 17) rfl ?_); refine goesL_ (some 82) rfl rfl Try.func17 s2_ rfl #[.agg #[.slice T0 h.length Tc0, .slice T1 t.length Tc1, .slice T2 p2.length Tc2], .int .i64 now] rfl s3_ ?_; refine (typingR k x2 true now P 5 rfl hX2).mono ?_; clear P; rintro e w1 ⟨X2, X2c, rfl, P⟩; refine ⟨_, rfl, ?_⟩; (try simp only [List.nil_append, List.cons_append, List.set_cons_zero, List.set_cons_succ] at P); obtain ⟨ce0, ce1, ce2, fe0, fe1, fe2⟩ := P.c3 6 rfl) | ((with_reducible refine gate_dst (N := 88) rfl ?_); (with_reducible refine gate_callee (f := 18) rfl ?_); refine goesL_ (some 88) rfl rfl Try.func18 s2_ rfl #[.agg #[.slice T0 h.length Tc0, .slice T1 t.length Tc1, .slice T2 p2.length Tc2], .int .i64 (wrap64 (1 + m))] rfl s3_ ?_; refine (leaveR k (wrap64 (1 + m)) h3 t3 P 5 rfl hG).mono ?_; clear P; rintro e w1 ⟨G0, Gc0, G1, Gc1, G2, Gc2, rfl, P⟩; refine ⟨_, rfl, ?_⟩; (try simp only [List.nil_append, List.cons_append, List.set_cons_zero, List.set_cons_succ] at P)) | ((with_reducible refine gate_dst (N := 17) rfl ?_); (try (refine gate_guard (by rfl) ?_; dsimp only)); refine bx_ 17 #[.slice none 0 0, .slice none 0 0, .slice none 0 0] 27 ?_; intro g17 hg w1 hbox hb; replace P := P.box hg hbox hb; clear hb hbox hg; (try simp only [List.nil_append, List.cons_append, List.set_cons_zero, List.set_cons_succ] at P); obtain ⟨ce0, ce1, ce2, fe0, fe1, fe2⟩ := P.c3 9 rfl) | ((with_reducible refine gate_store (p := 17) rfl ?_); refine st3 P 9 rfl rfl rfl rfl (by go_simp; rfl) ?_; clear P; intro w1 P; (try simp only [List.nil_append, List.cons_append, List.set_cons_zero, List.set_cons_succ] at P); obtain ⟨ce0, ce1, ce2, fe0, fe1, fe2⟩ := P.c3 9 rfl) | ((with_reducible refine gate_dst (N := 94) rfl ?_); (with_reducible refine gate_callee (f := 15) rfl ?_); refine goesL_ (some 94) rfl rfl Try.func15 s2_ rfl #[.agg #[.slice G0 h3.length Gc0, .slice G1 t3.length Gc1, .slice G2 p2.length Gc2], .int .i64 now] rfl s3_ ?_; refine (presentR k x3 true now P 8 rfl hX3).mono ?_; clear P; rintro e w1 ⟨X3, X3c, rfl, P⟩; refine ⟨_, rfl, ?_⟩; (try simp only [List.nil_append, List.cons_append, List.set_cons_zero, List.set_cons_succ] at P); obtain ⟨ce0, ce1, ce2, fe0, fe1, fe2⟩ := P.c3 9 rfl) | ((with_reducible refine gate_dst (N := 100) rfl ?_); (with_reducible refine gate_callee (f := 17) rfl ?_); refine goesL_ (some 100) rfl rfl Try.func17 s2_ rfl #[.agg #[.slice G0 h3.length Gc0, .slice G1 t3.length Gc1, .slice G2 p2.length Gc2], .int .i64 now] rfl s3_ ?_; refine (typingR k x4 true now P 8 rfl hX4).mono ?_; clear P; rintro e w1 ⟨X4, X4c, rfl, P⟩; refine ⟨_, rfl, ?_⟩; (try simp only [List.nil_append, List.cons_append, List.set_cons_zero, List.set_cons_succ] at P)))
 obtain ⟨ce0, ce1, ce2, fe0, fe1, fe2⟩ := P.c3 3 rfl
 try go_wp2_with (fail)
 refine (validP k true P 2 rfl hV).mono ?_
 clear P
 rintro e w1 ⟨rfl, P⟩
 try go_wp2_with (fail)
 refine (hasR k x1 (wrap64 (1 + m)) true P 4 rfl hH1).mono ?_
 clear P
 rintro e w1 ⟨rfl, P⟩
 try go_wp2_with (fail)
 refine (hasR k x2 (wrap64 (1 + m)) true P 7 rfl hH2).mono ?_
 clear P
 rintro e w1 ⟨rfl, P⟩
 try go_wp2_with (fail)
 refine (hasR k x3 (wrap64 (1 + m)) false P 10 rfl hH3).mono ?_
 clear P
 rintro e w1 ⟨rfl, P⟩
 try go_wp2_with (fail)
 refine (hasR k x4 (wrap64 (1 + m)) false P 11 rfl hH4).mono ?_
 clear P
 rintro e w1 ⟨rfl, P⟩
 obtain ⟨ce0, ce1, ce2, fe0, fe1, fe2⟩ := P.c3 1 rfl
 try go_wp2_with (first | ((with_reducible refine gate_dst (N := 161) rfl ?_); (with_reducible refine gate_callee (f := 15) rfl ?_); refine goesL_ (some 161) rfl rfl Try.func15 s2_ rfl #[.agg #[.slice A0 p0.length Ac0, .slice A1 p1.length Ac1, .slice A2 p2.length Ac2], .int .i64 (wrap64 (now + (wrap64 (1 + q))))] rfl s3_ ?_; refine (presentR k x5 true (wrap64 (now + (wrap64 (1 + q)))) P 0 rfl hX5).mono ?_; clear P; rintro e w1 ⟨X5, X5c, rfl, P⟩; refine ⟨_, rfl, ?_⟩; (try simp only [List.nil_append, List.cons_append, List.set_cons_zero, List.set_cons_succ] at P); obtain ⟨ce0, ce1, ce2, fe0, fe1, fe2⟩ := P.c3 3 rfl) | ((with_reducible refine gate_dst (N := 169) rfl ?_); (with_reducible refine gate_callee (f := 15) rfl ?_); refine goesL_ (some 169) rfl rfl Try.func15 s2_ rfl #[.agg #[.slice B0 h.length Bc0, .slice B1 p1.length Bc1, .slice B2 p2.length Bc2], .int .i64 (wrap64 (now + (wrap64 (1 + q))))] rfl s3_ ?_; refine (presentR k x6 true (wrap64 (now + (wrap64 (1 + q)))) P 2 rfl hX6).mono ?_; clear P; rintro e w1 ⟨X6, X6c, rfl, P⟩; refine ⟨_, rfl, ?_⟩; (try simp only [List.nil_append, List.cons_append, List.set_cons_zero, List.set_cons_succ] at P)))
 try go_wp2_with (fail)
 refine (hasR k x6 (wrap64 (1 + m)) v P 13 rfl hH6).mono ?_
 clear P
 rintro e w1 ⟨rfl, P⟩
 try go_wp2_with (fail)
 refine (hasR k x5 (wrap64 (1 + m)) v P 12 rfl hH5).mono ?_
 clear P
 rintro e w1 ⟨rfl, P⟩
 replace P : Pool w _ [rp w.heap.size A0 p0.length Ac0 p0 A1 p1.length Ac1 p1 A2 p2.length Ac2 p2, rbox g5 #[.slice A0 p0.length Ac0, .slice A1 p1.length Ac1, .slice A2 p2.length Ac2] 27] := P.pick [0, 1] _ (by decide) rfl
 rcases hTail with ⟨hr, hS, hTl⟩ | ⟨hr, hS, hTl⟩
 {
 obtain ⟨f1, f2, x0, y0, hX0, hY0, hLen, hAll, hAt⟩ := hTl
 have hnx : (wrap64 (now + 40)) ≤ now + 100 := by have := HN.out; have e : wrap64 (now + 100) = now + 100 := (by unfold wrap64; omega); rw [e] at f2; omega
 have hgt : now < (wrap64 (now + 40)) := by omega
 have HL := Aside0.mk hLen
 clear hLen
 have HX := Aside0.mk (And.intro hgt hnx)
 clear hgt hnx
 replace f1 := decide_eq_false f1
 replace f2 := decide_eq_false f2
 obtain ⟨ce0, ce1, ce2, fe0, fe1, fe2⟩ := P.c3 1 rfl
 try go_wp2_with (first | ((with_reducible refine gate_dst (N := 190) rfl ?_); (with_reducible refine gate_callee (f := 21) rfl ?_); refine goesL_ (some 190) rfl rfl Try.func21 s2_ rfl #[.agg #[.slice A0 p0.length Ac0, .slice A1 p1.length Ac1, .slice A2 p2.length Ac2], .int .i64 now] rfl s3_ ?_; refine (nextN k now ty r P 0 rfl hNx (by omega)).mono ?_; clear P; rintro e w1 ⟨rfl, P⟩; refine ⟨_, rfl, ?_⟩; (try simp only [List.nil_append, List.cons_append, List.set_cons_zero, List.set_cons_succ] at P); obtain ⟨ce0, ce1, ce2, fe0, fe1, fe2⟩ := P.c3 1 rfl) | ((with_reducible refine gate_dst (N := 196) rfl ?_); (with_reducible refine gate_callee (f := 22) rfl ?_); refine goesL_ (some 196) rfl rfl Try.func22 s2_ rfl #[.agg #[.slice A0 p0.length Ac0, .slice A1 p1.length Ac1, .slice A2 p2.length Ac2], .int .i64 now] rfl s3_ ?_; refine (specNextR k now s false P 0 rfl hS).mono ?_; clear P; rintro e w1 ⟨rfl, P⟩; refine ⟨_, rfl, ?_⟩; (try simp only [List.nil_append, List.cons_append, List.set_cons_zero, List.set_cons_succ] at P); obtain ⟨ce0, ce1, ce2, fe0, fe1, fe2⟩ := P.c3 1 rfl) | ((with_reducible refine gate_dst (N := 218) rfl ?_); (with_reducible refine gate_callee (f := 15) rfl ?_); refine goesL_ (some 218) rfl rfl Try.func15 s2_ rfl #[.agg #[.slice A0 p0.length Ac0, .slice A1 p1.length Ac1, .slice A2 p2.length Ac2], .int .i64 now] rfl s3_ ?_; refine (presentR k x0 true now P 0 rfl hX0).mono ?_; clear P; rintro e w1 ⟨X0, X0c, rfl, P⟩; refine ⟨_, rfl, ?_⟩; (try simp only [List.nil_append, List.cons_append, List.set_cons_zero, List.set_cons_succ] at P); obtain ⟨ce0, ce1, ce2, fe0, fe1, fe2⟩ := P.c3 1 rfl) | ((with_reducible refine gate_dst (N := 224) rfl ?_); (with_reducible refine gate_callee (f := 17) rfl ?_); refine goesL_ (some 224) rfl rfl Try.func17 s2_ rfl #[.agg #[.slice A0 p0.length Ac0, .slice A1 p1.length Ac1, .slice A2 p2.length Ac2], .int .i64 now] rfl s3_ ?_; refine (typingR k y0 true now P 0 rfl hY0).mono ?_; clear P; rintro e w1 ⟨Y0, Y0c, rfl, P⟩; refine ⟨_, rfl, ?_⟩; (try simp only [List.nil_append, List.cons_append, List.set_cons_zero, List.set_cons_succ] at P)))
 go_loopg [235] (y0.length + 1) (fun kq v w' => ∃ i : Int, v = .int .i64 i ∧ Aside0 (0 ≤ i ∧ i ≤ (y0.length : Int) ∧ (kq : Int) + i = (y0.length : Int) + 1) ∧ Pool w w' [rp w.heap.size A0 p0.length Ac0 p0 A1 p1.length Ac1 p1 A2 p2.length Ac2 p2, rbox g5 #[.slice A0 p0.length Ac0, .slice A1 p1.length Ac1, .slice A2 p2.length Ac2] 27, rrow (Kd.int .i64) 2 w.heap.size (.slice X0 x0.length X0c) x0, rrow (Kd.int .i64) 2 w.heap.size (.slice Y0 y0.length Y0c) y0])
 case atStart => exact ⟨0, rfl, ⟨by omega, by omega, by omega⟩, P⟩
 case round =>
 clear P
 obtain ⟨i, rfl, HI, P⟩ := hrel
 cases gk with
 | zero => exact absurd HI.out (by omega)
 | succ k1 =>
 by_cases c1 : i < (y0.length : Int)
 {
 have c2 : 0 ≤ i := HI.out.1
 obtain ⟨-, hyc, hyr⟩ := P.reads 3 rfl
 obtain ⟨ad, ead, hx0⟩ := Kd.at_int hyr i c2 c1
 cases ead
 have hyr2 := A_ hyr; clear hyr
 have hHas := hAll i c2 c1
 generalize rd y0 i = z at hx0 hHas
 have zq1 := decide_eq_true c1
 have zq2 := decide_eq_true c2
 replace c1 := eq_true c1
 replace c2 := eq_true c2
 try go_wp2_with (first | ((with_reducible refine gate_dst (N := 243) rfl ?_); (with_reducible refine gate_callee (f := 20) rfl ?_); refine goesL_ (some 243) rfl rfl Try.func20 s2_ rfl #[.slice X0 x0.length X0c, .int .i64 z] rfl s3_ ?_; refine (hasR k x0 z true P 2 rfl hHas).mono ?_; clear P; rintro e w1 ⟨rfl, P⟩; refine ⟨_, rfl, ?_⟩; (try simp only [List.nil_append, List.cons_append, List.set_cons_zero, List.set_cons_succ] at P)))
 go_roundg k1
 case measure => omega
 case rel => exact ⟨wrap64 (i + 1), s1_, ⟨by have := HI.out; have := of_decide_eq_true zq1; have := HL.out; have e : wrap64 (i + 1) = i + 1 := (by unfold wrap64; omega); rw [e]; omega⟩, P⟩
 }
 {
 have zq1 := decide_eq_false c1
 clear c1 HI
 try go_wp2_with (fail)
 have hw1 : wrap64 (now + 1) = now + 1 := by have := HN.out; unfold wrap64; omega
 have HW1 := Aside0.mk hw1
 clear hw1
 go_loopg [36] 202 (fun kq v w' => ∃ t : Int, v = .int .i64 t ∧ Aside0 (now < t ∧ t ≤ (wrap64 (now + 40)) + 1 ∧ (kq : Int) + t = now + 203) ∧ Pool w w' [rp w.heap.size A0 p0.length Ac0 p0 A1 p1.length Ac1 p1 A2 p2.length Ac2 p2, rbox g5 #[.slice A0 p0.length Ac0, .slice A1 p1.length Ac1, .slice A2 p2.length Ac2] 27, rrow (Kd.int .i64) 2 w.heap.size (.slice X0 x0.length X0c) x0, rrow (Kd.int .i64) 2 w.heap.size (.slice Y0 y0.length Y0c) y0])
 case atStart => exact ⟨wrap64 (now + 1), rfl, ⟨by have := HX.out; have := HN.out; rw [HW1.out]; omega⟩, P⟩
 case round =>
 clear P
 obtain ⟨t, rfl, HI, P⟩ := hrel
 cases gk with
 | zero => exact absurd HI.out (by have := HX.out; omega)
 | succ k1 =>
 by_cases c1 : t ≤ (wrap64 (now + 40))
 {
 obtain ⟨x, y, s1, s2, h1, h2, h3, h4, h5⟩ := hAt t HI.out.1 c1
 have hw2 : wrap64 (t + 1) = t + 1 := by have := HI.out; have := HX.out; have := HN.out; unfold wrap64; omega
 have HW2 := Aside0.mk hw2
 clear hw2
 have HC1 := Aside0.mk c1
 have zq2 := decide_eq_true c1
 clear c1
 obtain ⟨rfl, rfl⟩ : s1 = true ∧ s2 = true := by simpa using h5
 clear h5
 obtain ⟨ce0, ce1, ce2, fe0, fe1, fe2⟩ := P.c3 1 rfl
 try go_wp2_with (first | ((with_reducible refine gate_dst (N := 256) rfl ?_); (with_reducible refine gate_callee (f := 15) rfl ?_); refine goesL_ (some 256) rfl rfl Try.func15 s2_ rfl #[.agg #[.slice A0 p0.length Ac0, .slice A1 p1.length Ac1, .slice A2 p2.length Ac2], .int .i64 t] rfl s3_ ?_; refine (presentR k x true t P 0 rfl h1).mono ?_; clear P; rintro e w1 ⟨X, Xc, rfl, P⟩; refine ⟨_, rfl, ?_⟩; (try simp only [List.nil_append, List.cons_append, List.set_cons_zero, List.set_cons_succ] at P); obtain ⟨ce0, ce1, ce2, fe0, fe1, fe2⟩ := P.c3 1 rfl) | ((with_reducible refine gate_dst (N := 262) rfl ?_); (with_reducible refine gate_callee (f := 17) rfl ?_); refine goesL_ (some 262) rfl rfl Try.func17 s2_ rfl #[.agg #[.slice A0 p0.length Ac0, .slice A1 p1.length Ac1, .slice A2 p2.length Ac2], .int .i64 t] rfl s3_ ?_; refine (typingR k y true t P 0 rfl h2).mono ?_; clear P; rintro e w1 ⟨Y, Yc, rfl, P⟩; refine ⟨_, rfl, ?_⟩; (try simp only [List.nil_append, List.cons_append, List.set_cons_zero, List.set_cons_succ] at P)) | ((with_reducible refine gate_dst (N := 267) rfl ?_); (with_reducible refine gate_callee (f := 23) rfl ?_); refine goesL_ (some 267) rfl rfl Try.func23 s2_ rfl #[.slice X0 x0.length X0c, .slice X x.length Xc] rfl s3_ ?_; refine (numsR k x0 x true P 2 4 rfl rfl h3).mono ?_; clear P; rintro e w1 ⟨rfl, P⟩; refine ⟨_, rfl, ?_⟩; (try simp only [List.nil_append, List.cons_append, List.set_cons_zero, List.set_cons_succ] at P)))
 try go_wp2_with (fail)
 refine (numsR k y0 y true P 3 5 rfl rfl h4).mono ?_
 clear P
 rintro e w1 ⟨rfl, P⟩
 try go_wp2_with (fail)
 go_roundg k1
 case measure => omega
 case rel => exact ⟨wrap64 (t + 1), s1_, ⟨by have := HI.out; have := HC1.out; rw [HW2.out]; omega⟩, P.pick [0, 1, 2, 3] _ (by decide) rfl⟩
 }
 {
 have zq2 := decide_eq_false c1
 clear c1
 try go_wp2_with (fail)
 go_ret
 exact ⟨rfl, P.1⟩
 }
 }
 }
 {
 obtain ⟨f1, f2, x0, y0, hX0, hY0, hLen, hAll, hAt⟩ := hTl
 have hnx : r ≤ now + 100 := by have := HN.out; have e : wrap64 (now + 100) = now + 100 := (by unfold wrap64; omega); rw [e] at f2; omega
 have hgt : now < r := by omega
 have HL := Aside0.mk hLen
 clear hLen
 have HX := Aside0.mk (And.intro hgt hnx)
 clear hgt hnx
 replace f1 := decide_eq_false f1
 replace f2 := decide_eq_false f2
 obtain ⟨ce0, ce1, ce2, fe0, fe1, fe2⟩ := P.c3 1 rfl
 try go_wp2_with (first | ((with_reducible refine gate_dst (N := 190) rfl ?_); (with_reducible refine gate_callee (f := 21) rfl ?_); refine goesL_ (some 190) rfl rfl Try.func21 s2_ rfl #[.agg #[.slice A0 p0.length Ac0, .slice A1 p1.length Ac1, .slice A2 p2.length Ac2], .int .i64 now] rfl s3_ ?_; refine (nextY k now ty r P 0 rfl hNx (by omega)).mono ?_; clear P; rintro e w1 ⟨rfl, P⟩; refine ⟨_, rfl, ?_⟩; (try simp only [List.nil_append, List.cons_append, List.set_cons_zero, List.set_cons_succ] at P); obtain ⟨ce0, ce1, ce2, fe0, fe1, fe2⟩ := P.c3 1 rfl) | ((with_reducible refine gate_dst (N := 196) rfl ?_); (with_reducible refine gate_callee (f := 22) rfl ?_); refine goesL_ (some 196) rfl rfl Try.func22 s2_ rfl #[.agg #[.slice A0 p0.length Ac0, .slice A1 p1.length Ac1, .slice A2 p2.length Ac2], .int .i64 now] rfl s3_ ?_; refine (specNextR k now s true P 0 rfl hS).mono ?_; clear P; rintro e w1 ⟨rfl, P⟩; refine ⟨_, rfl, ?_⟩; (try simp only [List.nil_append, List.cons_append, List.set_cons_zero, List.set_cons_succ] at P); obtain ⟨ce0, ce1, ce2, fe0, fe1, fe2⟩ := P.c3 1 rfl) | ((with_reducible refine gate_dst (N := 218) rfl ?_); (with_reducible refine gate_callee (f := 15) rfl ?_); refine goesL_ (some 218) rfl rfl Try.func15 s2_ rfl #[.agg #[.slice A0 p0.length Ac0, .slice A1 p1.length Ac1, .slice A2 p2.length Ac2], .int .i64 now] rfl s3_ ?_; refine (presentR k x0 true now P 0 rfl hX0).mono ?_; clear P; rintro e w1 ⟨X0, X0c, rfl, P⟩; refine ⟨_, rfl, ?_⟩; (try simp only [List.nil_append, List.cons_append, List.set_cons_zero, List.set_cons_succ] at P); obtain ⟨ce0, ce1, ce2, fe0, fe1, fe2⟩ := P.c3 1 rfl) | ((with_reducible refine gate_dst (N := 224) rfl ?_); (with_reducible refine gate_callee (f := 17) rfl ?_); refine goesL_ (some 224) rfl rfl Try.func17 s2_ rfl #[.agg #[.slice A0 p0.length Ac0, .slice A1 p1.length Ac1, .slice A2 p2.length Ac2], .int .i64 now] rfl s3_ ?_; refine (typingR k y0 true now P 0 rfl hY0).mono ?_; clear P; rintro e w1 ⟨Y0, Y0c, rfl, P⟩; refine ⟨_, rfl, ?_⟩; (try simp only [List.nil_append, List.cons_append, List.set_cons_zero, List.set_cons_succ] at P)))
 go_loopg [235] (y0.length + 1) (fun kq v w' => ∃ i : Int, v = .int .i64 i ∧ Aside0 (0 ≤ i ∧ i ≤ (y0.length : Int) ∧ (kq : Int) + i = (y0.length : Int) + 1) ∧ Pool w w' [rp w.heap.size A0 p0.length Ac0 p0 A1 p1.length Ac1 p1 A2 p2.length Ac2 p2, rbox g5 #[.slice A0 p0.length Ac0, .slice A1 p1.length Ac1, .slice A2 p2.length Ac2] 27, rrow (Kd.int .i64) 2 w.heap.size (.slice X0 x0.length X0c) x0, rrow (Kd.int .i64) 2 w.heap.size (.slice Y0 y0.length Y0c) y0])
 case atStart => exact ⟨0, rfl, ⟨by omega, by omega, by omega⟩, P⟩
 case round =>
 clear P
 obtain ⟨i, rfl, HI, P⟩ := hrel
 cases gk with
 | zero => exact absurd HI.out (by omega)
 | succ k1 =>
 by_cases c1 : i < (y0.length : Int)
 {
 have c2 : 0 ≤ i := HI.out.1
 obtain ⟨-, hyc, hyr⟩ := P.reads 3 rfl
 obtain ⟨ad, ead, hx0⟩ := Kd.at_int hyr i c2 c1
 cases ead
 have hyr2 := A_ hyr; clear hyr
 have hHas := hAll i c2 c1
 generalize rd y0 i = z at hx0 hHas
 have zq1 := decide_eq_true c1
 have zq2 := decide_eq_true c2
 replace c1 := eq_true c1
 replace c2 := eq_true c2
 try go_wp2_with (first | ((with_reducible refine gate_dst (N := 243) rfl ?_); (with_reducible refine gate_callee (f := 20) rfl ?_); refine goesL_ (some 243) rfl rfl Try.func20 s2_ rfl #[.slice X0 x0.length X0c, .int .i64 z] rfl s3_ ?_; refine (hasR k x0 z true P 2 rfl hHas).mono ?_; clear P; rintro e w1 ⟨rfl, P⟩; refine ⟨_, rfl, ?_⟩; (try simp only [List.nil_append, List.cons_append, List.set_cons_zero, List.set_cons_succ] at P)))
 go_roundg k1
 case measure => omega
 case rel => exact ⟨wrap64 (i + 1), s1_, ⟨by have := HI.out; have := of_decide_eq_true zq1; have := HL.out; have e : wrap64 (i + 1) = i + 1 := (by unfold wrap64; omega); rw [e]; omega⟩, P⟩
 }
 {
 have zq1 := decide_eq_false c1
 clear c1 HI
 try go_wp2_with (fail)
 have hw1 : wrap64 (now + 1) = now + 1 := by have := HN.out; unfold wrap64; omega
 have HW1 := Aside0.mk hw1
 clear hw1
 go_loopg [36] 202 (fun kq v w' => ∃ t : Int, v = .int .i64 t ∧ Aside0 (now < t ∧ t ≤ r + 1 ∧ (kq : Int) + t = now + 203) ∧ Pool w w' [rp w.heap.size A0 p0.length Ac0 p0 A1 p1.length Ac1 p1 A2 p2.length Ac2 p2, rbox g5 #[.slice A0 p0.length Ac0, .slice A1 p1.length Ac1, .slice A2 p2.length Ac2] 27, rrow (Kd.int .i64) 2 w.heap.size (.slice X0 x0.length X0c) x0, rrow (Kd.int .i64) 2 w.heap.size (.slice Y0 y0.length Y0c) y0])
 case atStart => exact ⟨wrap64 (now + 1), rfl, ⟨by have := HX.out; have := HN.out; rw [HW1.out]; omega⟩, P⟩
 case round =>
 clear P
 obtain ⟨t, rfl, HI, P⟩ := hrel
 cases gk with
 | zero => exact absurd HI.out (by have := HX.out; omega)
 | succ k1 =>
 by_cases c1 : t ≤ r
 {
 obtain ⟨x, y, s1, s2, h1, h2, h3, h4, h5⟩ := hAt t HI.out.1 c1
 have hw2 : wrap64 (t + 1) = t + 1 := by have := HI.out; have := HX.out; have := HN.out; unfold wrap64; omega
 have HW2 := Aside0.mk hw2
 clear hw2
 have HC1 := Aside0.mk c1
 have zq2 := decide_eq_true c1
 clear c1
 by_cases e : t = r
 {
 have h6 : (s1 && s2) = false := by rw [h5]; simp [e]
 clear h5
 have e1 := decide_eq_true e
 have e2 : (t == r) = true := beq_iff_eq.mpr e
 clear e
 cases s1 with
 | false =>
 {
 clear h6
 obtain ⟨ce0, ce1, ce2, fe0, fe1, fe2⟩ := P.c3 1 rfl
 try go_wp2_with (first | ((with_reducible refine gate_dst (N := 256) rfl ?_); (with_reducible refine gate_callee (f := 15) rfl ?_); refine goesL_ (some 256) rfl rfl Try.func15 s2_ rfl #[.agg #[.slice A0 p0.length Ac0, .slice A1 p1.length Ac1, .slice A2 p2.length Ac2], .int .i64 t] rfl s3_ ?_; refine (presentR k x true t P 0 rfl h1).mono ?_; clear P; rintro e w1 ⟨X, Xc, rfl, P⟩; refine ⟨_, rfl, ?_⟩; (try simp only [List.nil_append, List.cons_append, List.set_cons_zero, List.set_cons_succ] at P); obtain ⟨ce0, ce1, ce2, fe0, fe1, fe2⟩ := P.c3 1 rfl) | ((with_reducible refine gate_dst (N := 262) rfl ?_); (with_reducible refine gate_callee (f := 17) rfl ?_); refine goesL_ (some 262) rfl rfl Try.func17 s2_ rfl #[.agg #[.slice A0 p0.length Ac0, .slice A1 p1.length Ac1, .slice A2 p2.length Ac2], .int .i64 t] rfl s3_ ?_; refine (typingR k y true t P 0 rfl h2).mono ?_; clear P; rintro e w1 ⟨Y, Yc, rfl, P⟩; refine ⟨_, rfl, ?_⟩; (try simp only [List.nil_append, List.cons_append, List.set_cons_zero, List.set_cons_succ] at P)) | ((with_reducible refine gate_dst (N := 267) rfl ?_); (with_reducible refine gate_callee (f := 23) rfl ?_); refine goesL_ (some 267) rfl rfl Try.func23 s2_ rfl #[.slice X0 x0.length X0c, .slice X x.length Xc] rfl s3_ ?_; refine (numsR k x0 x false P 2 4 rfl rfl h3).mono ?_; clear P; rintro e w1 ⟨rfl, P⟩; refine ⟨_, rfl, ?_⟩; (try simp only [List.nil_append, List.cons_append, List.set_cons_zero, List.set_cons_succ] at P)))
 try go_wp2_with (fail)
 go_roundg k1
 case measure => omega
 case rel => exact ⟨wrap64 (t + 1), s1_, ⟨by have := HI.out; have := HC1.out; rw [HW2.out]; omega⟩, P.pick [0, 1, 2, 3] _ (by decide) rfl⟩
 }
 | true =>
 obtain rfl : s2 = false := by simpa using h6
 clear h6
 obtain ⟨ce0, ce1, ce2, fe0, fe1, fe2⟩ := P.c3 1 rfl
 try go_wp2_with (first | ((with_reducible refine gate_dst (N := 256) rfl ?_); (with_reducible refine gate_callee (f := 15) rfl ?_); refine goesL_ (some 256) rfl rfl Try.func15 s2_ rfl #[.agg #[.slice A0 p0.length Ac0, .slice A1 p1.length Ac1, .slice A2 p2.length Ac2], .int .i64 t] rfl s3_ ?_; refine (presentR k x true t P 0 rfl h1).mono ?_; clear P; rintro e w1 ⟨X, Xc, rfl, P⟩; refine ⟨_, rfl, ?_⟩; (try simp only [List.nil_append, List.cons_append, List.set_cons_zero, List.set_cons_succ] at P); obtain ⟨ce0, ce1, ce2, fe0, fe1, fe2⟩ := P.c3 1 rfl) | ((with_reducible refine gate_dst (N := 262) rfl ?_); (with_reducible refine gate_callee (f := 17) rfl ?_); refine goesL_ (some 262) rfl rfl Try.func17 s2_ rfl #[.agg #[.slice A0 p0.length Ac0, .slice A1 p1.length Ac1, .slice A2 p2.length Ac2], .int .i64 t] rfl s3_ ?_; refine (typingR k y true t P 0 rfl h2).mono ?_; clear P; rintro e w1 ⟨Y, Yc, rfl, P⟩; refine ⟨_, rfl, ?_⟩; (try simp only [List.nil_append, List.cons_append, List.set_cons_zero, List.set_cons_succ] at P)) | ((with_reducible refine gate_dst (N := 267) rfl ?_); (with_reducible refine gate_callee (f := 23) rfl ?_); refine goesL_ (some 267) rfl rfl Try.func23 s2_ rfl #[.slice X0 x0.length X0c, .slice X x.length Xc] rfl s3_ ?_; refine (numsR k x0 x true P 2 4 rfl rfl h3).mono ?_; clear P; rintro e w1 ⟨rfl, P⟩; refine ⟨_, rfl, ?_⟩; (try simp only [List.nil_append, List.cons_append, List.set_cons_zero, List.set_cons_succ] at P)))
 try go_wp2_with (fail)
 refine (numsR k y0 y false P 3 5 rfl rfl h4).mono ?_
 clear P
 rintro e w1 ⟨rfl, P⟩
 try go_wp2_with (fail)
 go_roundg k1
 case measure => omega
 case rel => exact ⟨wrap64 (t + 1), s1_, ⟨by have := HI.out; have := HC1.out; rw [HW2.out]; omega⟩, P.pick [0, 1, 2, 3] _ (by decide) rfl⟩
 }
 {
 obtain ⟨rfl, rfl⟩ : s1 = true ∧ s2 = true := by simpa [e] using h5
 clear h5
 have e1 := decide_eq_false e
 have e2 : (t == r) = false := beq_eq_false_iff_ne.mpr e
 clear e
 obtain ⟨ce0, ce1, ce2, fe0, fe1, fe2⟩ := P.c3 1 rfl
 try go_wp2_with (first | ((with_reducible refine gate_dst (N := 256) rfl ?_); (with_reducible refine gate_callee (f := 15) rfl ?_); refine goesL_ (some 256) rfl rfl Try.func15 s2_ rfl #[.agg #[.slice A0 p0.length Ac0, .slice A1 p1.length Ac1, .slice A2 p2.length Ac2], .int .i64 t] rfl s3_ ?_; refine (presentR k x true t P 0 rfl h1).mono ?_; clear P; rintro e w1 ⟨X, Xc, rfl, P⟩; refine ⟨_, rfl, ?_⟩; (try simp only [List.nil_append, List.cons_append, List.set_cons_zero, List.set_cons_succ] at P); obtain ⟨ce0, ce1, ce2, fe0, fe1, fe2⟩ := P.c3 1 rfl) | ((with_reducible refine gate_dst (N := 262) rfl ?_); (with_reducible refine gate_callee (f := 17) rfl ?_); refine goesL_ (some 262) rfl rfl Try.func17 s2_ rfl #[.agg #[.slice A0 p0.length Ac0, .slice A1 p1.length Ac1, .slice A2 p2.length Ac2], .int .i64 t] rfl s3_ ?_; refine (typingR k y true t P 0 rfl h2).mono ?_; clear P; rintro e w1 ⟨Y, Yc, rfl, P⟩; refine ⟨_, rfl, ?_⟩; (try simp only [List.nil_append, List.cons_append, List.set_cons_zero, List.set_cons_succ] at P)) | ((with_reducible refine gate_dst (N := 267) rfl ?_); (with_reducible refine gate_callee (f := 23) rfl ?_); refine goesL_ (some 267) rfl rfl Try.func23 s2_ rfl #[.slice X0 x0.length X0c, .slice X x.length Xc] rfl s3_ ?_; refine (numsR k x0 x true P 2 4 rfl rfl h3).mono ?_; clear P; rintro e w1 ⟨rfl, P⟩; refine ⟨_, rfl, ?_⟩; (try simp only [List.nil_append, List.cons_append, List.set_cons_zero, List.set_cons_succ] at P)))
 try go_wp2_with (fail)
 refine (numsR k y0 y true P 3 5 rfl rfl h4).mono ?_
 clear P
 rintro e w1 ⟨rfl, P⟩
 try go_wp2_with (fail)
 go_roundg k1
 case measure => omega
 case rel => exact ⟨wrap64 (t + 1), s1_, ⟨by have := HI.out; have := HC1.out; rw [HW2.out]; omega⟩, P.pick [0, 1, 2, 3] _ (by decide) rfl⟩
 }
 }
 {
 have zq2 := decide_eq_false c1
 clear c1
 try go_wp2_with (fail)
 go_ret
 exact ⟨rfl, P.1⟩
 }
 }
 }
theorem ReadsInt.ofRow {k : IntKind} {w : World} {a : Option Addr} {len cap : Nat} {zs : List Int} (h : (a = none ∧ len = 0 ∧ cap = 0 ∧ zs = []) ∨ ∃ x, a = some x ∧ len ≤ cap ∧ cap ≤ maxLen ∧ zs.length = cap ∧ (∀ i, i < zs.length → w.cell? (x.add i) = some (.int k (zs.getD i 0))) ∧ ∀ n ∈ zs, (Lit.int k n).wf = true) :
    ∃ l : List Int, len = l.length ∧ ReadsInt w k a l.length l ∧ l.length ≤ maxLen ∧ ∀ x ∈ l, (Lit.int k x).wf = true := by
  rcases h with ⟨rfl, rfl, rfl, rfl⟩ | ⟨x, rfl, hl, hm, hz, hc, hw⟩
  · exact ⟨[], rfl, ReadsInt.nil _ _, Nat.zero_le _, fun x hx => by simp at hx⟩
  · have e : (zs.take len).length = len := by simp; omega
    have hm' : len ≤ maxLen := Nat.le_trans hl hm
    refine ⟨zs.take len, e.symm, ⟨rfl, by rw [e]; simpa [maxLen] using hm', fun _ => ⟨x, rfl, fun j hj => ?_⟩⟩, by rw [e]; exact hm', fun y hy => hw y (List.mem_of_mem_take hy)⟩
    rw [e] at hj
    rw [hc j (by omega)]
    simp [List.getD, List.getElem?_take, hj]
theorem ReadsInt.ofRowC {k : IntKind} {w : World} {a : Option Addr} {len cap : Nat} {zs : List Int} (h : (a = none ∧ len = 0 ∧ cap = 0 ∧ zs = []) ∨ ∃ x, a = some x ∧ len ≤ cap ∧ cap ≤ maxLen ∧ zs.length = cap ∧ (∀ i, i < zs.length → w.cell? (x.add i) = some (.int k (zs.getD i 0))) ∧ ∀ n ∈ zs, (Lit.int k n).wf = true) :
    ∃ l : List Int, len = l.length ∧ ReadsInt w k a l.length l ∧ l.length ≤ maxLen ∧ (∀ x ∈ l, (Lit.int k x).wf = true) ∧ l.length ≤ cap := by
  have hl : len ≤ cap := by
    rcases h with ⟨_, rfl, rfl, _⟩ | ⟨_, _, h, _⟩
    · exact Nat.le_refl _
    · exact h
  obtain ⟨l, e, h1, h2, h3⟩ := ReadsInt.ofRow h
  exact ⟨l, e, h1, h2, h3, e ▸ hl⟩
theorem Kd.C_of_reads {α : Type} {enc : α → Value} {d : α} {h1 : ∀ x, (enc x).oneCell' = true} {w : World} {A : Option Addr} {n : Nat} {xs : List α} (h : ReadsOf enc d w A n xs) : (Kd.scalar enc h1).C w A n xs := by
  refine ⟨h.1, h.2.1, fun hn => ?_⟩
  obtain ⟨ad, e, hc⟩ := h.2.2 hn
  refine ⟨ad, e, fun j p hj => ⟨[enc p], rfl, rfl, fun i u hu => ?_⟩⟩
  obtain ⟨hl, hp⟩ := List.getElem?_eq_some_iff.1 hj
  have h2 := hc j (by have := h.1; omega)
  rw [List.getD_eq_getElem?_getD, hj] at h2
  cases i with
  | zero =>
    have : enc p = u := by simpa using hu
    subst this
    simpa [Kd.scalar] using h2
  | succ i => simp at hu
def laws_FnLeases.Pure : Prop := ∀ l0 l1 : List Int, l0.length ≤ maxLen → l0.length * 1 ≤ 140737488351232 → (∀ n ∈ l0, (Lit.int .u8 n).wf = true) → l1.length ≤ maxLen → l1.length * 1 ≤ 140737488351232 → (∀ n ∈ l1, (Lit.int .u8 n).wf = true) → ∃ k, laws_FnLeases.Ans k l0 l1
theorem laws_FnLeases.walk (P : laws_FnLeases.Pure) (a0 : Option Addr) (len0 cap0 : Nat) (z0 : List Int) (a1 : Option Addr) (len1 cap1 : Nat) (z1 : List Int) (w : World) (w0 : (a0 = none ∧ len0 = 0 ∧ cap0 = 0 ∧ z0 = []) ∨ ∃ x, a0 = some x ∧ len0 ≤ cap0 ∧ cap0 ≤ maxLen ∧ z0.length = cap0 ∧ (∀ i, i < z0.length → w.cell? (x.add i) = some (.int .u8 (z0.getD i 0))) ∧ ∀ n ∈ z0, (Lit.int .u8 n).wf = true) (y0 : len0 * 1 ≤ 140737488351232) (w1 : (a1 = none ∧ len1 = 0 ∧ cap1 = 0 ∧ z1 = []) ∨ ∃ x, a1 = some x ∧ len1 ≤ cap1 ∧ cap1 ≤ maxLen ∧ z1.length = cap1 ∧ (∀ i, i < z1.length → w.cell? (x.add i) = some (.int .u8 (z1.getD i 0))) ∧ ∀ n ∈ z1, (Lit.int .u8 n).wf = true) (y1 : len1 * 1 ≤ 140737488351232) :
    Calls Try.prog 3 #[.slice a0 len0 cap0, .slice a1 len1 cap1] w fun e w' => e = .returned (.bool true) ∧ Below w.heap.size w w' := by
  obtain ⟨l0, rfl, hr0, hm0, hw0, hc0⟩ := ReadsInt.ofRowC w0
  obtain ⟨l1, rfl, hr1, hm1, hw1, hc1⟩ := ReadsInt.ofRowC w1
  obtain ⟨k, h⟩ := P l0 l1 hm0 y0 hw0 hm1 y1 hw1
  exact laws_FnLeases.calls k _ _ l0 _ _ l1 w (Kd.C_of_reads (d := (0 : Int)) (h1 := fun _ => rfl) hr0) hc0 (Kd.C_of_reads (d := (0 : Int)) (h1 := fun _ => rfl) hr1) hc1 h

end Go.Proofs.Ytgfilednbllkmaa.QFnJoinedPresence
