-- written by a program of this session, on the lines of the kit's print
import Derived.Test.YtgfilednbllkmaaQFnExactLeaveNowx0
import Derived.Test.YtgfilednbllkmaaQFnExactLeaveNowx2
import Derived.Test.YtgfilednbllkmaaQFnExactLeaveNowx3
namespace Go.Proofs.Ytgfilednbllkmaa.QFnExactLeaveNow
open Go.RowKit Go.Proofs.YtgfilednbllkmaaW.PrintWords Go.Proofs.YtgfilednbllkmaaW.PrintLast Go.Proofs.YtgfilednbllkmaaW.PrintMore
attribute [local go_sem] max2_int min2_int max_two min_two max_three min_three max_four min_four   -- for this text's walks alone
set_option linter.unusedVariables false
set_option linter.unusedSimpArgs false

/-! ### impl_LeaveNow: function 18 -/
abbrev impl_LeaveNow.T : Bool := true
abbrev impl_LeaveNow.F : Bool := false
theorem impl_LeaveNow.s2_ {P : Prop} (h : P := by kernel_rfl) : P := h
theorem impl_LeaveNow.s3_ {P : Prop} (h : P := by (try simp only [List.map_toArray, List.map_cons, List.map_nil]); first | done | rfl | (simp only [List.length_drop, List.length_take]; rfl)) : P := h
abbrev impl_LeaveNow.m0_ : Array Bool := #[F,F,F,F,F,F,F,F,F,F,F,F]
abbrev impl_LeaveNow.m1_ : Array Bool := #[T,F,F,F,F,F,F,F,F,F,F,F]
abbrev impl_LeaveNow.m2_ : Array Bool := #[T,T,F,F,F,F,F,F,F,F,F,F]
abbrev impl_LeaveNow.m3_ : Array Bool := #[T,T,T,F,F,F,F,F,F,F,F,F]
abbrev impl_LeaveNow.m4_ : Array Bool := #[T,T,T,F,F,T,F,F,F,F,F,F]
abbrev impl_LeaveNow.m5_ : Array Bool := #[T,T,T,F,F,T,T,F,F,F,F,F]
abbrev impl_LeaveNow.m6_ : Array Bool := #[T,T,T,F,F,T,T,T,F,F,F,F]
abbrev impl_LeaveNow.m7_ : Array Bool := #[T,T,T,T,F,T,T,T,F,F,F,F]
abbrev impl_LeaveNow.m8_ : Array Bool := #[T,T,T,T,T,T,T,T,F,F,F,F]
abbrev impl_LeaveNow.m9_ : Array Bool := #[T,T,T,T,T,T,T,T,T,F,F,F]
abbrev impl_LeaveNow.m10_ : Array Bool := #[T,T,T,T,T,T,T,T,T,T,F,F]
abbrev impl_LeaveNow.m11_ : Array Bool := #[T,T,T,T,T,T,T,T,T,T,T,F]
abbrev impl_LeaveNow.m12_ : Array Bool := #[T,T,T,T,T,T,T,T,T,T,T,T]
abbrev impl_LeaveNow.m13_ : Array Bool := #[F,F,F,F,F,F,F,F,F,F,F,F,F,F,F,F,F,F,F,F]
abbrev impl_LeaveNow.m14_ : Array Bool := #[T,F,F,F,F,F,F,F,F,F,F,F,F,F,F,F,F,F,F,F]
abbrev impl_LeaveNow.m15_ : Array Bool := #[T,T,F,F,F,F,F,F,F,F,F,F,F,F,F,F,F,F,F,F]
abbrev impl_LeaveNow.m16_ : Array Bool := #[T,T,T,F,F,F,F,F,F,F,F,F,F,F,F,F,F,F,F,F]
abbrev impl_LeaveNow.m17_ : Array Bool := #[T,T,T,T,F,F,F,F,F,F,F,F,F,F,F,F,F,F,F,F]
abbrev impl_LeaveNow.m18_ : Array Bool := #[T,T,T,T,T,F,F,F,F,F,F,F,F,F,F,F,F,F,F,F]
abbrev impl_LeaveNow.m19_ : Array Bool := #[T,T,T,T,T,F,T,F,F,F,F,F,F,F,F,F,F,F,F,F]
abbrev impl_LeaveNow.m20_ : Array Bool := #[T,T,T,T,T,F,T,F,T,F,F,F,F,F,F,F,F,F,F,F]
abbrev impl_LeaveNow.m21_ : Array Bool := #[T,T,T,T,T,F,T,F,T,T,F,F,F,F,F,F,F,F,F,F]
abbrev impl_LeaveNow.m22_ : Array Bool := #[T,T,T,T,T,F,T,F,T,T,T,F,F,F,F,F,F,F,F,F]
abbrev impl_LeaveNow.m23_ : Array Bool := #[T,T,T,T,T,F,T,F,T,T,T,F,T,F,F,F,F,F,F,F]
abbrev impl_LeaveNow.m24_ : Array Bool := #[T,T,T,T,T,T,T,F,T,T,T,F,T,F,F,F,F,F,F,F]
abbrev impl_LeaveNow.m25_ : Array Bool := #[T,T,T,T,T,T,T,F,T,T,T,T,T,F,F,F,F,F,F,F]
abbrev impl_LeaveNow.m26_ : Array Bool := #[T,T,T,T,T,T,T,T,T,T,T,T,T,F,F,F,F,F,F,F]
abbrev impl_LeaveNow.m27_ : Array Bool := #[T,T,T,T,T,T,T,T,T,T,T,T,T,T,F,F,F,F,F,F]
abbrev impl_LeaveNow.m28_ : Array Bool := #[T,T,T,T,T,T,T,T,T,T,T,T,T,T,T,F,F,F,F,F]
abbrev impl_LeaveNow.m29_ : Array Bool := #[T,T,T,T,T,T,T,T,T,T,T,T,T,T,T,T,F,F,F,F]
abbrev impl_LeaveNow.m30_ : Array Bool := #[T,T,T,T,T,T,T,T,T,T,T,T,T,T,T,T,T,F,F,F]
abbrev impl_LeaveNow.m31_ : Array Bool := #[T,T,T,T,T,T,T,T,T,T,T,T,T,T,T,T,T,T,F,F]
abbrev impl_LeaveNow.m32_ : Array Bool := #[T,T,T,T,T,T,T,T,T,T,T,T,T,T,T,T,T,T,T,F]
abbrev impl_LeaveNow.m33_ : Array Bool := #[T,T,T,T,T,T,T,T,T,T,T,T,T,T,T,T,T,T,T,T]
abbrev impl_LeaveNow.m34_ : Array Bool := #[F,F,F,F,F,F,F,F,F,F,F,F,F,F]
abbrev impl_LeaveNow.m35_ : Array Bool := #[T,F,F,F,F,F,F,F,F,F,F,F,F,F]
abbrev impl_LeaveNow.m36_ : Array Bool := #[T,T,F,F,F,F,F,F,F,F,F,F,F,F]
abbrev impl_LeaveNow.m37_ : Array Bool := #[T,T,T,F,F,F,F,F,F,F,F,F,F,F]
abbrev impl_LeaveNow.m38_ : Array Bool := #[T,T,T,F,F,T,F,F,F,F,F,F,F,F]
abbrev impl_LeaveNow.m39_ : Array Bool := #[T,T,T,F,F,T,T,F,F,F,F,F,F,F]
abbrev impl_LeaveNow.m40_ : Array Bool := #[T,T,T,F,F,T,T,T,F,F,F,F,F,F]
abbrev impl_LeaveNow.m41_ : Array Bool := #[T,T,T,F,F,T,T,T,F,F,F,T,F,F]
abbrev impl_LeaveNow.m42_ : Array Bool := #[T,T,T,T,F,T,T,T,F,F,F,T,F,F]
abbrev impl_LeaveNow.m43_ : Array Bool := #[T,T,T,T,T,T,T,T,F,F,F,T,F,F]
abbrev impl_LeaveNow.m44_ : Array Bool := #[T,T,T,T,T,T,T,T,T,F,F,T,F,F]
abbrev impl_LeaveNow.m45_ : Array Bool := #[T,T,T,T,T,T,T,T,T,T,F,T,F,F]
abbrev impl_LeaveNow.m46_ : Array Bool := #[T,T,T,T,T,T,T,T,T,T,T,T,F,F]
abbrev impl_LeaveNow.m47_ : Array Bool := #[T,T,T,T,T,T,T,T,T,T,T,T,T,F]
abbrev impl_LeaveNow.m48_ : Array Bool := #[T,T,T,T,T,T,T,T,T,T,T,T,T,T]
theorem impl_LeaveNow.p1_ {P : Prop} (h : P := by simp only [Act.put, List.setIfInBounds_toArray, List.set_cons_zero, List.set_cons_succ, i64_w, i32_w]; rfl) : P := h
theorem impl_LeaveNow.b1_ {P Q : Prop} (q : Q) (h : Q → P := by intro q_; (with_reducible repeat (first | refine blk_drewN ?_ _ | refine blk_drew ?_ | refine blk_alloc ?_ _)); exact q_) : P := h q
theorem impl_LeaveNow.b2_ {P Q : Prop} (q : Q) (h : Q → P := by intro q_; (with_reducible repeat (first | apply Kd.R_alloc | apply Kd.R_drewN | apply Kd.R_drew)); exact q_) : P := h q
theorem impl_LeaveNow.y1_ {P Q : Prop} (q : Q) (h : Q → P := by intro q_; repeat (first | (with_reducible first | exact q_ | apply below_alloc | apply pw_below_drewN | apply below_drew1) | exact q_)) : P := h q
theorem impl_LeaveNow.y2_ {P Q : Prop} (q : Q) (h : Q → P := by intro q_; repeat (first | exact q_ | (with_reducible refine Kd.C_alloc ?_ _) | (with_reducible refine Kd.C_drewN ?_ _) | (with_reducible refine Kd.C_drew ?_))) : P := h q
theorem impl_LeaveNow.pu_ {P : Program} {md : Region.Mode} {ops : Array Oper} {Q : Exit → Act → World → Prop} {S : World → Prop} {ds : List Nat} {fuel : Nat} {l : Array Bool} {a : Act} {w : World} {oi : Oper} {a' : Act} {v : Value} (i N : Nat) (l' : Array Bool) (hc : anyB md ops l l' i = true) (h : wpAnyLast P md ops Q S ds fuel l' a' w) (hi : ops[i]? = some oi := by rfl) (hN : oi.dst = some N := by rfl) (hQ : ∀ c a w, Q (.panic c) (a.put oi.dst v) w → Q (.panic c) a w := by exact fun _ _ _ h => h) (hy : Yields P ops oi v a := by exact Or.inl ⟨by rfl, by intro w'; go_simp; with_reducible rfl⟩) (ha : a.put (some N) v = a' := by simp only [Act.put, List.setIfInBounds_toArray, List.set_cons_zero, List.set_cons_succ, i64_w, i32_w]; rfl) : wpAnyLast P md ops Q S ds (fuel + 1) l a w := pure_ l' hi hN hc hQ hy ha h
def impl_LeaveNow.f (k : Nat) (l0_0 : List (S63)) (l0_1 : List (S63)) (l0_2 : List (S73)) (a1 : Int) : Option ((List (S63)) × (List (S63)) × (List (S73)) × Bool) := (impl_ValidPresence.f k l0_0 l0_1 l0_2).bind fun t135 => (if t135 = true then ((impl_clonePresence.f l0_0 l0_1 l0_2).bind fun bt136 => ((impl_dropLeases_v0.f k bt136.1 a1).bind fun t146 => ((impl_dropLeases_v0.f k bt136.2.1 a1).bind fun t149 => (if ((wrap64 ((t146.length : Int) + (t149.length : Int))) < (wrap64 ((bt136.1.length : Int) + (bt136.2.1.length : Int)))) then ((impl_ValidPresence.f k t146 t149 bt136.2.2).bind fun t152 => (if t152 = true then (some (t146, t149, bt136.2.2, true)) else (some (([] : List (S63)), ([] : List (S63)), ([] : List (S73)), false)))) else (some (([] : List (S63)), ([] : List (S63)), ([] : List (S73)), false)))))) else (some (([] : List (S63)), ([] : List (S63)), ([] : List (S73)), false)))
theorem impl_LeaveNow.mono : ∀ a0 a1 a2 a3 k, LeO (impl_LeaveNow.f k a0 a1 a2 a3) (impl_LeaveNow.f (k + 1) a0 a1 a2 a3) := by
  intro a0 a1 a2 a3 k
  unfold impl_LeaveNow.f
  repeat' first
      | (with_reducible exact impl_ValidPresence.mono _ _ _ _)
      | (with_reducible exact impl_dropLeases_v0.mono _ _ _)
      | (with_reducible exact LeO.refl _)
      | (with_reducible exact LeO.none _)
      | (with_reducible refine LeO.ite ?_ ?_)
      | (with_reducible refine LeO.bind ?_ (fun _ => ?_))
      | exact impl_ValidPresence.mono _ _ _ _
      | exact impl_dropLeases_v0.mono _ _ _
      | exact LeO.none _
      | refine LeO.ite ?_ ?_
      | refine LeO.bind ?_ (fun _ => ?_)
def impl_LeaveNow.g51.T1 : Bool × List (List Nat × List Nat) := (true, [([], []), ([0], [0]), ([1], [1]), ([2], [2]), ([3], [3]), ([], []), ([5], [5]), ([6], [6]), ([7], [7]), ([8], [8]), ([4, 9], [4, 9]), ([10, 0, 1, 2, 3, 4, 5, 6, 7, 8, 9, 10], [10])])
def impl_LeaveNow.g51.B1 : List Nat := [0, 1, 3, 7, 15, 0, 32, 96, 224, 480, 1023, 2047]
theorem impl_LeaveNow.g51.tab1 : rtab .any (opsOf Try.f51 1) = impl_LeaveNow.g51.T1 := by kernel_rfl
theorem impl_LeaveNow.g51.bits1 : waitsOk impl_LeaveNow.g51.T1.2 impl_LeaveNow.g51.B1 = true := by kernel_rfl
def impl_LeaveNow.g51.T3 : Bool × List (List Nat × List Nat) := (true, [([], []), ([], []), ([], []), ([2], [2]), ([3], [3]), ([4], [4]), ([], []), ([5, 6], [5, 6]), ([], []), ([8], [8]), ([9], [9]), ([10], [10]), ([], []), ([11, 12, 7], [11, 12]), ([0, 0, 2, 3, 4, 5, 6, 7, 11, 13], [0]), ([14, 0, 2, 3, 4, 5, 6, 7, 11, 13], [14]), ([15, 7, 13, 0, 2, 3, 4, 5, 6, 7, 11, 13], [7, 15]), ([1, 0, 1, 2, 3, 4, 5, 6, 7, 8, 9, 10, 11, 12, 13, 14, 15, 16], [1]), ([17, 0, 1, 2, 3, 4, 5, 6, 7, 8, 9, 10, 11, 12, 13, 14, 15, 16], [17]), ([18, 13, 16, 0, 1, 2, 3, 4, 5, 6, 7, 8, 9, 10, 11, 12, 13, 14, 15, 16], [13, 18])])
def impl_LeaveNow.g51.B3 : List Nat := [0, 0, 0, 4, 12, 28, 0, 124, 0, 256, 768, 1792, 0, 8188, 16381, 32765, 65533, 131071, 262143, 524287]
theorem impl_LeaveNow.g51.tab3 : rtab .any (opsOf Try.f51 3) = impl_LeaveNow.g51.T3 := by kernel_rfl
theorem impl_LeaveNow.g51.bits3 : waitsOk impl_LeaveNow.g51.T3.2 impl_LeaveNow.g51.B3 = true := by kernel_rfl
def impl_LeaveNow.g51.T4 : Bool × List (List Nat × List Nat) := (true, [([], []), ([0], [0]), ([1], [1]), ([2], [2]), ([3], [3]), ([], []), ([5], [5]), ([6], [6]), ([7], [7]), ([8], [8]), ([4, 9], [4, 9]), ([], []), ([10, 11], [10, 11]), ([12, 0, 1, 2, 3, 4, 5, 6, 7, 8, 9, 10, 11, 12], [12])])
def impl_LeaveNow.g51.B4 : List Nat := [0, 1, 3, 7, 15, 0, 32, 96, 224, 480, 1023, 0, 4095, 8191]
theorem impl_LeaveNow.g51.tab4 : rtab .any (opsOf Try.f51 4) = impl_LeaveNow.g51.T4 := by kernel_rfl
theorem impl_LeaveNow.g51.bits4 : waitsOk impl_LeaveNow.g51.T4.2 impl_LeaveNow.g51.B4 = true := by kernel_rfl
set_option maxHeartbeats 40000000 in
set_option maxRecDepth 100000 in
theorem impl_LeaveNow.calls (k : Nat) (A0_0 : Option Addr) (c0_0 : Nat) (l0_0 : List (S63)) (A0_1 : Option Addr) (c0_1 : Nat) (l0_1 : List (S63)) (A0_2 : Option Addr) (c0_2 : Nat) (l0_2 : List (S73)) (a1 : Int) (r1 : List (S63)) (r2 : List (S63)) (r3 : List (S73)) (r4 : Bool) (w : World) (hr0_0 : Kd.C k63 w A0_0 l0_0.length l0_0) (hc0_0 : l0_0.length ≤ c0_0) (hr0_1 : Kd.C k63 w A0_1 l0_1.length l0_1) (hc0_1 : l0_1.length ≤ c0_1) (hr0_2 : Kd.C k73 w A0_2 l0_2.length l0_2) (hc0_2 : l0_2.length ≤ c0_2) (h : impl_LeaveNow.f k l0_0 l0_1 l0_2 a1 = some (r1, r2, r3, r4)) :
    Calls Try.prog 18 #[.agg #[.slice A0_0 l0_0.length c0_0, .slice A0_1 l0_1.length c0_1, .slice A0_2 l0_2.length c0_2], .int .i64 a1] w fun e w' => ∃ v0_ v1_ v2_ : Value, e = .returned (.tuple #[.agg #[v0_, v1_, v2_], .bool r4]) ∧ Kd.R k63 63 w' w.heap.size (fun k_ => some k_ ≠ (v1_ : Value).ownBlock) v0_ r1 ∧ Kd.R k63 63 w' w.heap.size (fun k_ => some k_ ≠ (v0_ : Value).ownBlock) v1_ r2 ∧ Kd.R k73 73 w' w.heap.size (fun _ => True) v2_ r3 ∧ Below w.heap.size w w' := by
 have hu27 := Try.underlying27
 have HR0_0 := Aside0.mk hr0_0
 have HC0_0 := Aside0.mk hc0_0
 clear hr0_0 hc0_0
 have HR0_1 := Aside0.mk hr0_1
 have HC0_1 := Aside0.mk hc0_1
 clear hr0_1 hc0_1
 have HR0_2 := Aside0.mk hr0_2
 have HC0_2 := Aside0.mk hc0_2
 clear hr0_2 hc0_2
 have HB := Aside0.mk (Below.refl w.heap.size w)
 have H : ((impl_ValidPresence.f k l0_0 l0_1 l0_2).bind fun t135 => (if t135 = true then ((impl_clonePresence.f l0_0 l0_1 l0_2).bind fun bt136 => ((impl_dropLeases_v0.f k bt136.1 a1).bind fun t146 => ((impl_dropLeases_v0.f k bt136.2.1 a1).bind fun t149 => (if ((wrap64 ((t146.length : Int) + (t149.length : Int))) < (wrap64 ((bt136.1.length : Int) + (bt136.2.1.length : Int)))) then ((impl_ValidPresence.f k t146 t149 bt136.2.2).bind fun t152 => (if t152 = true then (some (t146, t149, bt136.2.2, true)) else (some (([] : List (S63)), ([] : List (S63)), ([] : List (S73)), false)))) else (some (([] : List (S63)), ([] : List (S63)), ([] : List (S73)), false)))))) else (some (([] : List (S63)), ([] : List (S63)), ([] : List (S73)), false)))) = some (r1, r2, r3, r4) := h
 clear h
 replace H := Option.bind_eq_some_iff.mp H
 obtain ⟨t135, A30, H⟩ := H
 replace H : (if t135 = true then ((impl_clonePresence.f l0_0 l0_1 l0_2).bind fun bt136 => ((impl_dropLeases_v0.f k bt136.1 a1).bind fun t146 => ((impl_dropLeases_v0.f k bt136.2.1 a1).bind fun t149 => (if ((wrap64 ((t146.length : Int) + (t149.length : Int))) < (wrap64 ((bt136.1.length : Int) + (bt136.2.1.length : Int)))) then ((impl_ValidPresence.f k t146 t149 bt136.2.2).bind fun t152 => (if t152 = true then (some (t146, t149, bt136.2.2, true)) else (some (([] : List (S63)), ([] : List (S63)), ([] : List (S73)), false)))) else (some (([] : List (S63)), ([] : List (S63)), ([] : List (S73)), false)))))) else (some (([] : List (S63)), ([] : List (S63)), ([] : List (S73)), false))) = some (r1, r2, r3, r4) := H
 have A3 := Aside0.mk A30
 clear A30
 by_cases c4 : t135 = true
 {
 subst c4
 have H1 : ((impl_clonePresence.f l0_0 l0_1 l0_2).bind fun bt136 => ((impl_dropLeases_v0.f k bt136.1 a1).bind fun t146 => ((impl_dropLeases_v0.f k bt136.2.1 a1).bind fun t149 => (if ((wrap64 ((t146.length : Int) + (t149.length : Int))) < (wrap64 ((bt136.1.length : Int) + (bt136.2.1.length : Int)))) then ((impl_ValidPresence.f k t146 t149 bt136.2.2).bind fun t152 => (if t152 = true then (some (t146, t149, bt136.2.2, true)) else (some (([] : List (S63)), ([] : List (S63)), ([] : List (S73)), false)))) else (some (([] : List (S63)), ([] : List (S63)), ([] : List (S73)), false)))))) = some (r1, r2, r3, r4) := by rw [if_pos rfl] at H; exact H
 clear H
 have H := H1
 clear H1
 replace H := Option.bind_eq_some_iff.mp H
 obtain ⟨⟨t136, t139, t142⟩, A50, H⟩ := H
 replace H : ((impl_dropLeases_v0.f k t136 a1).bind fun t146 => ((impl_dropLeases_v0.f k t139 a1).bind fun t149 => (if ((wrap64 ((t146.length : Int) + (t149.length : Int))) < (wrap64 ((t136.length : Int) + (t139.length : Int)))) then ((impl_ValidPresence.f k t146 t149 t142).bind fun t152 => (if t152 = true then (some (t146, t149, t142, true)) else (some (([] : List (S63)), ([] : List (S63)), ([] : List (S73)), false)))) else (some (([] : List (S63)), ([] : List (S63)), ([] : List (S73)), false))))) = some (r1, r2, r3, r4) := H
 have A5 := Aside0.mk A50
 clear A50
 replace H := Option.bind_eq_some_iff.mp H
 obtain ⟨t146, A60, H⟩ := H
 replace H : ((impl_dropLeases_v0.f k t139 a1).bind fun t149 => (if ((wrap64 ((t146.length : Int) + (t149.length : Int))) < (wrap64 ((t136.length : Int) + (t139.length : Int)))) then ((impl_ValidPresence.f k t146 t149 t142).bind fun t152 => (if t152 = true then (some (t146, t149, t142, true)) else (some (([] : List (S63)), ([] : List (S63)), ([] : List (S73)), false)))) else (some (([] : List (S63)), ([] : List (S63)), ([] : List (S73)), false)))) = some (r1, r2, r3, r4) := H
 have A6 := Aside0.mk A60
 clear A60
 replace H := Option.bind_eq_some_iff.mp H
 obtain ⟨t149, A70, H⟩ := H
 replace H : (if ((wrap64 ((t146.length : Int) + (t149.length : Int))) < (wrap64 ((t136.length : Int) + (t139.length : Int)))) then ((impl_ValidPresence.f k t146 t149 t142).bind fun t152 => (if t152 = true then (some (t146, t149, t142, true)) else (some (([] : List (S63)), ([] : List (S63)), ([] : List (S73)), false)))) else (some (([] : List (S63)), ([] : List (S63)), ([] : List (S73)), false))) = some (r1, r2, r3, r4) := H
 have A7 := Aside0.mk A70
 clear A70
 by_cases c8 : ((wrap64 ((t146.length : Int) + (t149.length : Int))) < (wrap64 ((t136.length : Int) + (t139.length : Int))))
 {
 rw [if_pos c8] at H
 have c8b0 : decide ((wrap64 ((t146.length : Int) + (t149.length : Int))) < (wrap64 ((t136.length : Int) + (t139.length : Int)))) = true := decide_eq_true c8
 clear c8
 replace H := Option.bind_eq_some_iff.mp H
 obtain ⟨t152, A90, H⟩ := H
 replace H : (if t152 = true then (some (t146, t149, t142, true)) else (some (([] : List (S63)), ([] : List (S63)), ([] : List (S73)), false))) = some (r1, r2, r3, r4) := H
 have A9 := Aside0.mk A90
 clear A90
 by_cases c10 : t152 = true
 {
 subst c10
 have H1 : (some (t146, t149, t142, true)) = some (r1, r2, r3, r4) := by rw [if_pos rfl] at H; exact H
 clear H
 have H := H1
 clear H1
 simp only [Option.some.injEq, Prod.mk.injEq] at H
 obtain ⟨rfl, rfl, rfl, rfl⟩ := H
 go_enter Try.func18, Try.ntmps18
 try go_wp2_with (first | ((with_reducible refine gate_dst (N := 2) rfl ?_); (try (refine gate_guard (by rfl) ?_; dsimp only)); refine box_event ?hg (N := 2) ?hd (cs := #[.slice A0_0 l0_0.length c0_0, .slice A0_1 l0_1.length c0_1, .slice A0_2 l0_2.length c0_2]) (t := 27) ?hr ?_; (case hd => rfl); (case hg => rfl); (case hr => first | (go_simp; done) | (go_simp; rfl)); intro gb130 hg w11 hbox hb; have n0_ := Aside0.mk (below_step (y1_ HB.out) hb); have n1_ := Aside0.mk (hbox); have n2_ := Aside0.mk ((by rw [hg]; exact (below_size (y1_ HB.out)) : w.heap.size ≤ gb130)); have n3_ := Aside0.mk ((by rw [hg]; exact (below_size (y1_ HB.out)) : w.heap.size ≤ gb130)); clear HB; have HB := n0_; have BK130 := n1_; have GW130 := n2_; have GE130 := n3_; clear n0_ n1_ n2_ n3_; clear hb hbox hg) | ((with_reducible refine gate_dst (N := 3) rfl ?_); (try (refine gate_guard (by rfl) ?_; dsimp only)); refine box_event ?hg (N := 3) ?hd (cs := #[.int .i64 a1]) (t := 2) ?hr ?_; (case hd => rfl); (case hg => rfl); (case hr => first | (go_simp; done) | (go_simp; rfl)); intro gb131 hg w12 hbox hb; have n0_ := Aside0.mk (blk_below (g := gb130) (o := .cells #[.slice A0_0 l0_0.length c0_0, .slice A0_1 l0_1.length c0_1, .slice A0_2 l0_2.length c0_2] 27 (0, 0)) (b1_ BK130.out) hb); have n1_ := Aside0.mk (below_step (y1_ HB.out) hb); have n2_ := Aside0.mk (hbox); have n3_ := Aside0.mk ((by rw [hg]; exact (below_size (y1_ HB.out)) : w.heap.size ≤ gb131)); have n4_ := Aside0.mk ((by rw [hg]; exact (below_size (y1_ HB.out)) : w.heap.size ≤ gb131)); have n5_ := Aside0.mk ((by rw [hg]; exact Nat.ne_of_lt (blk_lt (g := gb130) (o := .cells #[.slice A0_0 l0_0.length c0_0, .slice A0_1 l0_1.length c0_1, .slice A0_2 l0_2.length c0_2] 27 (0, 0)) (b1_ BK130.out)) : gb130 ≠ gb131)); have n6_ := Aside0.mk ((by rw [hg]; exact Nat.ne_of_gt (blk_lt (g := gb130) (o := .cells #[.slice A0_0 l0_0.length c0_0, .slice A0_1 l0_1.length c0_1, .slice A0_2 l0_2.length c0_2] 27 (0, 0)) (b1_ BK130.out)) : gb131 ≠ gb130)); clear BK130; clear HB; have BK130 := n0_; have HB := n1_; have BK131 := n2_; have GW131 := n3_; have GE131 := n4_; have NB130_131 := n5_; have NB131_130 := n6_; clear n0_ n1_ n2_ n3_ n4_ n5_ n6_; clear hb hbox hg) | ((with_reducible refine gate_dst (N := 4) rfl ?_); (try (refine gate_guard (by rfl) ?_; dsimp only)); refine box_event ?hg (N := 4) ?hd (cs := #[.slice none 0 0, .slice none 0 0, .slice none 0 0]) (t := 27) ?hr ?_; (case hd => rfl); (case hg => rfl); (case hr => first | (go_simp; done) | (go_simp; rfl)); intro gb132 hg w13 hbox hb; have n0_ := Aside0.mk (blk_below (g := gb130) (o := .cells #[.slice A0_0 l0_0.length c0_0, .slice A0_1 l0_1.length c0_1, .slice A0_2 l0_2.length c0_2] 27 (0, 0)) (b1_ BK130.out) hb); have n1_ := Aside0.mk (blk_below (g := gb131) (o := .cells #[.int .i64 a1] 2 (0, 0)) (b1_ BK131.out) hb); have n2_ := Aside0.mk (below_step (y1_ HB.out) hb); have n3_ := Aside0.mk (hbox); have n4_ := Aside0.mk ((by rw [hg]; exact (below_size (y1_ HB.out)) : w.heap.size ≤ gb132)); have n5_ := Aside0.mk ((by rw [hg]; exact (below_size (y1_ HB.out)) : w.heap.size ≤ gb132)); have n6_ := Aside0.mk ((by rw [hg]; exact Nat.ne_of_lt (blk_lt (g := gb130) (o := .cells #[.slice A0_0 l0_0.length c0_0, .slice A0_1 l0_1.length c0_1, .slice A0_2 l0_2.length c0_2] 27 (0, 0)) (b1_ BK130.out)) : gb130 ≠ gb132)); have n7_ := Aside0.mk ((by rw [hg]; exact Nat.ne_of_gt (blk_lt (g := gb130) (o := .cells #[.slice A0_0 l0_0.length c0_0, .slice A0_1 l0_1.length c0_1, .slice A0_2 l0_2.length c0_2] 27 (0, 0)) (b1_ BK130.out)) : gb132 ≠ gb130)); have n8_ := Aside0.mk ((by rw [hg]; exact Nat.ne_of_lt (blk_lt (g := gb131) (o := .cells #[.int .i64 a1] 2 (0, 0)) (b1_ BK131.out)) : gb131 ≠ gb132)); have n9_ := Aside0.mk ((by rw [hg]; exact Nat.ne_of_gt (blk_lt (g := gb131) (o := .cells #[.int .i64 a1] 2 (0, 0)) (b1_ BK131.out)) : gb132 ≠ gb131)); clear BK130; clear BK131; clear HB; have BK130 := n0_; have BK131 := n1_; have HB := n2_; have BK132 := n3_; have GW132 := n4_; have GE132 := n5_; have NB130_132 := n6_; have NB132_130 := n7_; have NB131_132 := n8_; have NB132_131 := n9_; clear n0_ n1_ n2_ n3_ n4_ n5_ n6_ n7_ n8_ n9_; clear hb hbox hg; have hnb14 := NB130_131.out; have hnc14 := NB131_130.out; have hnb15 := NB130_132.out; have hnc15 := NB132_130.out; have hcz16_0 : w13.cell? ⟨gb130, 0, none⟩ = some (.slice A0_0 l0_0.length c0_0) := (blk_cell BK130.out 0).trans rfl; have hcz16_1 : w13.cell? ⟨gb130, 1, none⟩ = some (.slice A0_1 l0_1.length c0_1) := (blk_cell BK130.out 1).trans rfl; have hcz16_2 : w13.cell? ⟨gb130, 2, none⟩ = some (.slice A0_2 l0_2.length c0_2) := (blk_cell BK130.out 2).trans rfl; have hfz16_0 := blk_frozen BK130.out 0; have hfz16_1 := blk_frozen BK130.out 1; have hfz16_2 := blk_frozen BK130.out 2))
 go_at_call 42
 go_in
 try go_wp2_with (first | ((with_reducible refine gate_dst (N := 2) rfl ?_); (try (refine gate_guard (by rfl) ?_; dsimp only)); refine box_event ?hg (N := 2) ?hd (cs := #[.slice A0_0 l0_0.length c0_0, .slice A0_1 l0_1.length c0_1, .slice A0_2 l0_2.length c0_2]) (t := 27) ?hr ?_; (case hd => rfl); (case hg => rfl); (case hr => first | (go_simp; done) | (go_simp; rfl)); intro gb133 hg w17 hbox hb; have n0_ := Aside0.mk (blk_below (g := gb130) (o := .cells #[.slice A0_0 l0_0.length c0_0, .slice A0_1 l0_1.length c0_1, .slice A0_2 l0_2.length c0_2] 27 (0, 0)) (b1_ BK130.out) hb); have n1_ := Aside0.mk (blk_below (g := gb131) (o := .cells #[.int .i64 a1] 2 (0, 0)) (b1_ BK131.out) hb); have n2_ := Aside0.mk (blk_below (g := gb132) (o := .cells #[.slice none 0 0, .slice none 0 0, .slice none 0 0] 27 (0, 0)) (b1_ BK132.out) hb); have n3_ := Aside0.mk (below_step (y1_ HB.out) hb); have n4_ := Aside0.mk (hbox); have n5_ := Aside0.mk ((by rw [hg]; exact (below_size (y1_ HB.out)) : w.heap.size ≤ gb133)); have n6_ := Aside0.mk ((by rw [hg]; exact (below_size (y1_ HB.out)) : w.heap.size ≤ gb133)); have n7_ := Aside0.mk ((by rw [hg]; exact Nat.ne_of_lt (blk_lt (g := gb130) (o := .cells #[.slice A0_0 l0_0.length c0_0, .slice A0_1 l0_1.length c0_1, .slice A0_2 l0_2.length c0_2] 27 (0, 0)) (b1_ BK130.out)) : gb130 ≠ gb133)); have n8_ := Aside0.mk ((by rw [hg]; exact Nat.ne_of_gt (blk_lt (g := gb130) (o := .cells #[.slice A0_0 l0_0.length c0_0, .slice A0_1 l0_1.length c0_1, .slice A0_2 l0_2.length c0_2] 27 (0, 0)) (b1_ BK130.out)) : gb133 ≠ gb130)); have n9_ := Aside0.mk ((by rw [hg]; exact Nat.ne_of_lt (blk_lt (g := gb131) (o := .cells #[.int .i64 a1] 2 (0, 0)) (b1_ BK131.out)) : gb131 ≠ gb133)); have n10_ := Aside0.mk ((by rw [hg]; exact Nat.ne_of_gt (blk_lt (g := gb131) (o := .cells #[.int .i64 a1] 2 (0, 0)) (b1_ BK131.out)) : gb133 ≠ gb131)); have n11_ := Aside0.mk ((by rw [hg]; exact Nat.ne_of_lt (blk_lt (g := gb132) (o := .cells #[.slice none 0 0, .slice none 0 0, .slice none 0 0] 27 (0, 0)) (b1_ BK132.out)) : gb132 ≠ gb133)); have n12_ := Aside0.mk ((by rw [hg]; exact Nat.ne_of_gt (blk_lt (g := gb132) (o := .cells #[.slice none 0 0, .slice none 0 0, .slice none 0 0] 27 (0, 0)) (b1_ BK132.out)) : gb133 ≠ gb132)); clear BK130; clear BK131; clear BK132; clear HB; have BK130 := n0_; have BK131 := n1_; have BK132 := n2_; have HB := n3_; have BK133 := n4_; have GW133 := n5_; have GE133 := n6_; have NB130_133 := n7_; have NB133_130 := n8_; have NB131_133 := n9_; have NB133_131 := n10_; have NB132_133 := n11_; have NB133_132 := n12_; clear n0_ n1_ n2_ n3_ n4_ n5_ n6_ n7_ n8_ n9_ n10_ n11_ n12_; clear hb hbox hg) | ((with_reducible refine gate_dst (N := 4) rfl ?_); (try (refine gate_guard (by rfl) ?_; dsimp only)); refine box_event ?hg (N := 4) ?hd (cs := #[.slice none 0 0, .slice none 0 0, .slice none 0 0]) (t := 27) ?hr ?_; (case hd => rfl); (case hg => rfl); (case hr => first | (go_simp; done) | (go_simp; rfl)); intro gb134 hg w18 hbox hb; have n0_ := Aside0.mk (blk_below (g := gb130) (o := .cells #[.slice A0_0 l0_0.length c0_0, .slice A0_1 l0_1.length c0_1, .slice A0_2 l0_2.length c0_2] 27 (0, 0)) (b1_ BK130.out) hb); have n1_ := Aside0.mk (blk_below (g := gb131) (o := .cells #[.int .i64 a1] 2 (0, 0)) (b1_ BK131.out) hb); have n2_ := Aside0.mk (blk_below (g := gb132) (o := .cells #[.slice none 0 0, .slice none 0 0, .slice none 0 0] 27 (0, 0)) (b1_ BK132.out) hb); have n3_ := Aside0.mk (blk_below (g := gb133) (o := .cells #[.slice A0_0 l0_0.length c0_0, .slice A0_1 l0_1.length c0_1, .slice A0_2 l0_2.length c0_2] 27 (0, 0)) (b1_ BK133.out) hb); have n4_ := Aside0.mk (below_step (y1_ HB.out) hb); have n5_ := Aside0.mk (hbox); have n6_ := Aside0.mk ((by rw [hg]; exact (below_size (y1_ HB.out)) : w.heap.size ≤ gb134)); have n7_ := Aside0.mk ((by rw [hg]; exact (below_size (y1_ HB.out)) : w.heap.size ≤ gb134)); have n8_ := Aside0.mk ((by rw [hg]; exact Nat.ne_of_lt (blk_lt (g := gb130) (o := .cells #[.slice A0_0 l0_0.length c0_0, .slice A0_1 l0_1.length c0_1, .slice A0_2 l0_2.length c0_2] 27 (0, 0)) (b1_ BK130.out)) : gb130 ≠ gb134)); have n9_ := Aside0.mk ((by rw [hg]; exact Nat.ne_of_gt (blk_lt (g := gb130) (o := .cells #[.slice A0_0 l0_0.length c0_0, .slice A0_1 l0_1.length c0_1, .slice A0_2 l0_2.length c0_2] 27 (0, 0)) (b1_ BK130.out)) : gb134 ≠ gb130)); have n10_ := Aside0.mk ((by rw [hg]; exact Nat.ne_of_lt (blk_lt (g := gb131) (o := .cells #[.int .i64 a1] 2 (0, 0)) (b1_ BK131.out)) : gb131 ≠ gb134)); have n11_ := Aside0.mk ((by rw [hg]; exact Nat.ne_of_gt (blk_lt (g := gb131) (o := .cells #[.int .i64 a1] 2 (0, 0)) (b1_ BK131.out)) : gb134 ≠ gb131)); have n12_ := Aside0.mk ((by rw [hg]; exact Nat.ne_of_lt (blk_lt (g := gb132) (o := .cells #[.slice none 0 0, .slice none 0 0, .slice none 0 0] 27 (0, 0)) (b1_ BK132.out)) : gb132 ≠ gb134)); have n13_ := Aside0.mk ((by rw [hg]; exact Nat.ne_of_gt (blk_lt (g := gb132) (o := .cells #[.slice none 0 0, .slice none 0 0, .slice none 0 0] 27 (0, 0)) (b1_ BK132.out)) : gb134 ≠ gb132)); have n14_ := Aside0.mk ((by rw [hg]; exact Nat.ne_of_lt (blk_lt (g := gb133) (o := .cells #[.slice A0_0 l0_0.length c0_0, .slice A0_1 l0_1.length c0_1, .slice A0_2 l0_2.length c0_2] 27 (0, 0)) (b1_ BK133.out)) : gb133 ≠ gb134)); have n15_ := Aside0.mk ((by rw [hg]; exact Nat.ne_of_gt (blk_lt (g := gb133) (o := .cells #[.slice A0_0 l0_0.length c0_0, .slice A0_1 l0_1.length c0_1, .slice A0_2 l0_2.length c0_2] 27 (0, 0)) (b1_ BK133.out)) : gb134 ≠ gb133)); clear BK130; clear BK131; clear BK132; clear BK133; clear HB; have BK130 := n0_; have BK131 := n1_; have BK132 := n2_; have BK133 := n3_; have HB := n4_; have BK134 := n5_; have GW134 := n6_; have GE134 := n7_; have NB130_134 := n8_; have NB134_130 := n9_; have NB131_134 := n10_; have NB134_131 := n11_; have NB132_134 := n12_; have NB134_132 := n13_; have NB133_134 := n14_; have NB134_133 := n15_; clear n0_ n1_ n2_ n3_ n4_ n5_ n6_ n7_ n8_ n9_ n10_ n11_ n12_ n13_ n14_ n15_; clear hb hbox hg; have hnb19 := NB133_130.out; have hnc19 := NB130_133.out; have hnb20 := NB133_131.out; have hnc20 := NB131_133.out; have hnb21 := NB133_132.out; have hnc21 := NB132_133.out; have hnb22 := NB133_134.out; have hnc22 := NB134_133.out; have hcz23_0 : w18.cell? ⟨gb133, 0, none⟩ = some (.slice A0_0 l0_0.length c0_0) := (blk_cell BK133.out 0).trans rfl; have hcz23_1 : w18.cell? ⟨gb133, 1, none⟩ = some (.slice A0_1 l0_1.length c0_1) := (blk_cell BK133.out 1).trans rfl; have hcz23_2 : w18.cell? ⟨gb133, 2, none⟩ = some (.slice A0_2 l0_2.length c0_2) := (blk_cell BK133.out 2).trans rfl; have hfz23_0 := blk_frozen BK133.out 0; have hfz23_1 := blk_frozen BK133.out 1; have hfz23_2 := blk_frozen BK133.out 2) | ((with_reducible refine gate_callee (f := 19) rfl ?_); refine goesL_ (some 8) rfl rfl Try.func19 s2_ rfl #[.agg #[.slice A0_0 l0_0.length c0_0, .slice A0_1 l0_1.length c0_1, .slice A0_2 l0_2.length c0_2]] rfl s3_ ?_; (with_reducible refine (impl_ValidPresence.calls k _ _ l0_0 _ _ l0_1 _ _ l0_2 true _ ?side1 ?side2 ?side3 ?side4 ?side5 ?side6 A3.out).mono ?_); (case side1 => exact y2_ (Kd.C_below HR0_0.out HB.out)); (case side2 => exact HC0_0.out); (case side3 => exact y2_ (Kd.C_below HR0_1.out HB.out)); (case side4 => exact HC0_1.out); (case side5 => exact y2_ (Kd.C_below HR0_2.out HB.out)); (case side6 => exact HC0_2.out); rintro e w24 ⟨rfl, hb⟩; refine ⟨_, rfl, ?_⟩; have n0_ := Aside0.mk (blk_below (g := gb130) (o := .cells #[.slice A0_0 l0_0.length c0_0, .slice A0_1 l0_1.length c0_1, .slice A0_2 l0_2.length c0_2] 27 (0, 0)) (b1_ BK130.out) hb); have n1_ := Aside0.mk (blk_below (g := gb131) (o := .cells #[.int .i64 a1] 2 (0, 0)) (b1_ BK131.out) hb); have n2_ := Aside0.mk (blk_below (g := gb132) (o := .cells #[.slice none 0 0, .slice none 0 0, .slice none 0 0] 27 (0, 0)) (b1_ BK132.out) hb); have n3_ := Aside0.mk (blk_below (g := gb133) (o := .cells #[.slice A0_0 l0_0.length c0_0, .slice A0_1 l0_1.length c0_1, .slice A0_2 l0_2.length c0_2] 27 (0, 0)) (b1_ BK133.out) hb); have n4_ := Aside0.mk (blk_below (g := gb134) (o := .cells #[.slice none 0 0, .slice none 0 0, .slice none 0 0] 27 (0, 0)) (b1_ BK134.out) hb); have n5_ := Aside0.mk (below_step (y1_ HB.out) hb); clear BK130; clear BK131; clear BK132; clear BK133; clear BK134; clear HB; have BK130 := n0_; have BK131 := n1_; have BK132 := n2_; have BK133 := n3_; have BK134 := n4_; have HB := n5_; clear n0_ n1_ n2_ n3_ n4_ n5_; (try clear hb); (try clear hb2); (try clear hk); (try clear hi); have hcz25_0 : w24.cell? ⟨gb133, 0, none⟩ = some (.slice A0_0 l0_0.length c0_0) := (blk_cell BK133.out 0).trans rfl; have hcz25_1 : w24.cell? ⟨gb133, 1, none⟩ = some (.slice A0_1 l0_1.length c0_1) := (blk_cell BK133.out 1).trans rfl; have hcz25_2 : w24.cell? ⟨gb133, 2, none⟩ = some (.slice A0_2 l0_2.length c0_2) := (blk_cell BK133.out 2).trans rfl; have hfz25_0 := blk_frozen BK133.out 0; have hfz25_1 := blk_frozen BK133.out 1; have hfz25_2 := blk_frozen BK133.out 2) | ((with_reducible refine gate_callee (f := 90) rfl ?_); refine goesL_ (some 12) rfl rfl Try.func90 s2_ rfl #[.agg #[.slice A0_0 l0_0.length c0_0, .slice A0_1 l0_1.length c0_1, .slice A0_2 l0_2.length c0_2]] rfl s3_ ?_; (with_reducible refine (impl_clonePresence.calls _ _ l0_0 _ _ l0_1 _ _ l0_2 t136 t139 t142 _ ?side1 ?side2 ?side3 ?side4 ?side5 ?side6 A5.out).mono ?_); (case side1 => exact y2_ (Kd.C_below HR0_0.out HB.out)); (case side2 => exact HC0_0.out); (case side3 => exact y2_ (Kd.C_below HR0_1.out HB.out)); (case side4 => exact HC0_1.out); (case side5 => exact y2_ (Kd.C_below HR0_2.out HB.out)); (case side6 => exact HC0_2.out); rintro e w26 ⟨v137, v140, v143, rfl, ho0, ho1, ho2, hb⟩; refine ⟨_, rfl, ?_⟩; have n0_ := Aside0.mk (Kd.R_lower ho0 (below_size (y1_ HB.out))); have n1_ := Aside0.mk (Kd.R_lower ho1 (below_size (y1_ HB.out))); have n2_ := Aside0.mk (Kd.R_lower ho2 (below_size (y1_ HB.out))); have n3_ := Aside0.mk (blk_below (g := gb130) (o := .cells #[.slice A0_0 l0_0.length c0_0, .slice A0_1 l0_1.length c0_1, .slice A0_2 l0_2.length c0_2] 27 (0, 0)) (b1_ BK130.out) hb); have n4_ := Aside0.mk (blk_below (g := gb131) (o := .cells #[.int .i64 a1] 2 (0, 0)) (b1_ BK131.out) hb); have n5_ := Aside0.mk (blk_below (g := gb132) (o := .cells #[.slice none 0 0, .slice none 0 0, .slice none 0 0] 27 (0, 0)) (b1_ BK132.out) hb); have n6_ := Aside0.mk (blk_below (g := gb133) (o := .cells #[.slice A0_0 l0_0.length c0_0, .slice A0_1 l0_1.length c0_1, .slice A0_2 l0_2.length c0_2] 27 (0, 0)) (b1_ BK133.out) hb); have n7_ := Aside0.mk (blk_below (g := gb134) (o := .cells #[.slice none 0 0, .slice none 0 0, .slice none 0 0] 27 (0, 0)) (b1_ BK134.out) hb); have n8_ := Aside0.mk (below_step (y1_ HB.out) hb); clear BK130; clear BK131; clear BK132; clear BK133; clear BK134; clear HB; have HO138 := n0_; have HO141 := n1_; have HO144 := n2_; have BK130 := n3_; have BK131 := n4_; have BK132 := n5_; have BK133 := n6_; have BK134 := n7_; have HB := n8_; clear n0_ n1_ n2_ n3_ n4_ n5_ n6_ n7_ n8_; (try clear hb); (try clear hb2); (try clear hk); (try clear hi); (try clear ho0); (try clear ho1); (try clear ho2)) | ((with_reducible refine gate_dst (N := 6) rfl ?_); (try (refine gate_guard (by rfl) ?_; dsimp only)); refine box_event ?hg (N := 6) ?hd (cs := #[.slice none 0 0, .slice none 0 0, .slice none 0 0]) (t := 27) ?hr ?_; (case hd => rfl); (case hg => rfl); (case hr => first | (go_simp; done) | (go_simp; rfl)); intro gb145 hg w27 hbox hb; have n0_ := Aside0.mk (Kd.R_below (b2_ HO138.out) hb); have n1_ := Aside0.mk (Kd.R_below (b2_ HO141.out) hb); have n2_ := Aside0.mk (Kd.R_below (b2_ HO144.out) hb); have n3_ := Aside0.mk (blk_below (g := gb130) (o := .cells #[.slice A0_0 l0_0.length c0_0, .slice A0_1 l0_1.length c0_1, .slice A0_2 l0_2.length c0_2] 27 (0, 0)) (b1_ BK130.out) hb); have n4_ := Aside0.mk (blk_below (g := gb131) (o := .cells #[.int .i64 a1] 2 (0, 0)) (b1_ BK131.out) hb); have n5_ := Aside0.mk (blk_below (g := gb132) (o := .cells #[.slice none 0 0, .slice none 0 0, .slice none 0 0] 27 (0, 0)) (b1_ BK132.out) hb); have n6_ := Aside0.mk (blk_below (g := gb133) (o := .cells #[.slice A0_0 l0_0.length c0_0, .slice A0_1 l0_1.length c0_1, .slice A0_2 l0_2.length c0_2] 27 (0, 0)) (b1_ BK133.out) hb); have n7_ := Aside0.mk (blk_below (g := gb134) (o := .cells #[.slice none 0 0, .slice none 0 0, .slice none 0 0] 27 (0, 0)) (b1_ BK134.out) hb); have n8_ := Aside0.mk (below_step (y1_ HB.out) hb); have n9_ := Aside0.mk (hbox); have n10_ := Aside0.mk ((by rw [hg]; exact (below_size (y1_ HB.out)) : w.heap.size ≤ gb145)); have n11_ := Aside0.mk ((by rw [hg]; exact (below_size (y1_ HB.out)) : w.heap.size ≤ gb145)); have n12_ := Aside0.mk ((by rw [hg]; exact Nat.ne_of_lt (blk_lt (g := gb130) (o := .cells #[.slice A0_0 l0_0.length c0_0, .slice A0_1 l0_1.length c0_1, .slice A0_2 l0_2.length c0_2] 27 (0, 0)) (b1_ BK130.out)) : gb130 ≠ gb145)); have n13_ := Aside0.mk ((by rw [hg]; exact Nat.ne_of_gt (blk_lt (g := gb130) (o := .cells #[.slice A0_0 l0_0.length c0_0, .slice A0_1 l0_1.length c0_1, .slice A0_2 l0_2.length c0_2] 27 (0, 0)) (b1_ BK130.out)) : gb145 ≠ gb130)); have n14_ := Aside0.mk ((by rw [hg]; exact Nat.ne_of_lt (blk_lt (g := gb131) (o := .cells #[.int .i64 a1] 2 (0, 0)) (b1_ BK131.out)) : gb131 ≠ gb145)); have n15_ := Aside0.mk ((by rw [hg]; exact Nat.ne_of_gt (blk_lt (g := gb131) (o := .cells #[.int .i64 a1] 2 (0, 0)) (b1_ BK131.out)) : gb145 ≠ gb131)); have n16_ := Aside0.mk ((by rw [hg]; exact Nat.ne_of_lt (blk_lt (g := gb132) (o := .cells #[.slice none 0 0, .slice none 0 0, .slice none 0 0] 27 (0, 0)) (b1_ BK132.out)) : gb132 ≠ gb145)); have n17_ := Aside0.mk ((by rw [hg]; exact Nat.ne_of_gt (blk_lt (g := gb132) (o := .cells #[.slice none 0 0, .slice none 0 0, .slice none 0 0] 27 (0, 0)) (b1_ BK132.out)) : gb145 ≠ gb132)); have n18_ := Aside0.mk ((by rw [hg]; exact Nat.ne_of_lt (blk_lt (g := gb133) (o := .cells #[.slice A0_0 l0_0.length c0_0, .slice A0_1 l0_1.length c0_1, .slice A0_2 l0_2.length c0_2] 27 (0, 0)) (b1_ BK133.out)) : gb133 ≠ gb145)); have n19_ := Aside0.mk ((by rw [hg]; exact Nat.ne_of_gt (blk_lt (g := gb133) (o := .cells #[.slice A0_0 l0_0.length c0_0, .slice A0_1 l0_1.length c0_1, .slice A0_2 l0_2.length c0_2] 27 (0, 0)) (b1_ BK133.out)) : gb145 ≠ gb133)); have n20_ := Aside0.mk ((by rw [hg]; exact Nat.ne_of_lt (blk_lt (g := gb134) (o := .cells #[.slice none 0 0, .slice none 0 0, .slice none 0 0] 27 (0, 0)) (b1_ BK134.out)) : gb134 ≠ gb145)); have n21_ := Aside0.mk ((by rw [hg]; exact Nat.ne_of_gt (blk_lt (g := gb134) (o := .cells #[.slice none 0 0, .slice none 0 0, .slice none 0 0] 27 (0, 0)) (b1_ BK134.out)) : gb145 ≠ gb134)); clear HO138; clear HO141; clear HO144; clear BK130; clear BK131; clear BK132; clear BK133; clear BK134; clear HB; have HO138 := n0_; have HO141 := n1_; have HO144 := n2_; have BK130 := n3_; have BK131 := n4_; have BK132 := n5_; have BK133 := n6_; have BK134 := n7_; have HB := n8_; have BK145 := n9_; have GW145 := n10_; have GE145 := n11_; have NB130_145 := n12_; have NB145_130 := n13_; have NB131_145 := n14_; have NB145_131 := n15_; have NB132_145 := n16_; have NB145_132 := n17_; have NB133_145 := n18_; have NB145_133 := n19_; have NB134_145 := n20_; have NB145_134 := n21_; clear n0_ n1_ n2_ n3_ n4_ n5_ n6_ n7_ n8_ n9_ n10_ n11_ n12_ n13_ n14_ n15_ n16_ n17_ n18_ n19_ n20_ n21_; clear hb hbox hg; obtain ⟨Ao28, co28, eo28⟩ := Kd.R_slice HO138.out; subst eo28; have hnb29 := NB145_130.out; have hnc29 := NB130_145.out; have hnb30 := NB145_131.out; have hnc30 := NB131_145.out; have hnb31 := NB145_132.out; have hnc31 := NB132_145.out; have hnb32 := NB145_133.out; have hnc32 := NB133_145.out; have hnb33 := NB145_134.out; have hnc33 := NB134_145.out; have hcz34_0 : w27.cell? ⟨gb145, 0, none⟩ = some (.slice none 0 0) := (blk_cell BK145.out 0).trans rfl; have hcz34_1 : w27.cell? ⟨gb145, 1, none⟩ = some (.slice none 0 0) := (blk_cell BK145.out 1).trans rfl; have hcz34_2 : w27.cell? ⟨gb145, 2, none⟩ = some (.slice none 0 0) := (blk_cell BK145.out 2).trans rfl; have hfz34_0 := blk_frozen BK145.out 0; have hfz34_1 := blk_frozen BK145.out 1; have hfz34_2 := blk_frozen BK145.out 2; obtain ⟨Ao35, co35, eo35⟩ := Kd.R_slice HO141.out; subst eo35; obtain ⟨Ao36, co36, eo36⟩ := Kd.R_slice HO144.out; subst eo36))
 go_at_call 51
 go_in
 try go_wp2_with (fail)
 have n0_ : Aside0 (Kd.R k63 63 (((w27.setCell ⟨gb145, 0, none⟩ (.slice Ao28 t136.length co28)).setCell ⟨gb145, 1, none⟩ (.slice Ao35 t139.length co35)).setCell ⟨gb145, 2, none⟩ (.slice Ao36 t142.length co36)) w.heap.size (fun k_ => some k_ ≠ (.slice Ao35 t139.length co35 : Value).ownBlock) (.slice Ao28 t136.length co28) t136) := ⟨by (with_reducible repeat (first | apply Kd.R_alloc | apply Kd.R_drewN | apply Kd.R_drew)); exact Kd.R_mono (Kd.R_far3 (g := gb145) (Kd.R_types HO138.out BK145.out (by decide)) (fun _ hk => hk.2)) (fun _ hk => hk.1)⟩
 have n1_ : Aside0 (Kd.R k63 63 (((w27.setCell ⟨gb145, 0, none⟩ (.slice Ao28 t136.length co28)).setCell ⟨gb145, 1, none⟩ (.slice Ao35 t139.length co35)).setCell ⟨gb145, 2, none⟩ (.slice Ao36 t142.length co36)) w.heap.size (fun k_ => some k_ ≠ (.slice Ao28 t136.length co28 : Value).ownBlock) (.slice Ao35 t139.length co35) t139) := ⟨by (with_reducible repeat (first | apply Kd.R_alloc | apply Kd.R_drewN | apply Kd.R_drew)); exact Kd.R_mono (Kd.R_far3 (g := gb145) (Kd.R_types HO141.out BK145.out (by decide)) (fun _ hk => hk.2)) (fun _ hk => hk.1)⟩
 have n2_ : Aside0 (Kd.R k73 73 (((w27.setCell ⟨gb145, 0, none⟩ (.slice Ao28 t136.length co28)).setCell ⟨gb145, 1, none⟩ (.slice Ao35 t139.length co35)).setCell ⟨gb145, 2, none⟩ (.slice Ao36 t142.length co36)) w.heap.size (fun _ => True) (.slice Ao36 t142.length co36) t142) := ⟨by (with_reducible repeat (first | apply Kd.R_alloc | apply Kd.R_drewN | apply Kd.R_drew)); exact Kd.R_mono (Kd.R_far3 (g := gb145) (Kd.R_types HO144.out BK145.out (by decide)) (fun _ hk => hk.2)) (fun _ hk => trivial)⟩
 have n3_ : Aside0 ((((w27.setCell ⟨gb145, 0, none⟩ (.slice Ao28 t136.length co28)).setCell ⟨gb145, 1, none⟩ (.slice Ao35 t139.length co35)).setCell ⟨gb145, 2, none⟩ (.slice Ao36 t142.length co36)).heap[gb130]? = some (.cells #[.slice A0_0 l0_0.length c0_0, .slice A0_1 l0_1.length c0_1, .slice A0_2 l0_2.length c0_2] 27 (0, 0))) := ⟨by (with_reducible repeat (first | refine blk_drewN ?_ _ | refine blk_drew ?_ | refine blk_alloc ?_ _)); refine blk_far3 ?_ NB130_145.out; (with_reducible repeat (first | refine blk_drewN ?_ _ | refine blk_drew ?_ | refine blk_alloc ?_ _)); exact BK130.out⟩
 have n4_ : Aside0 ((((w27.setCell ⟨gb145, 0, none⟩ (.slice Ao28 t136.length co28)).setCell ⟨gb145, 1, none⟩ (.slice Ao35 t139.length co35)).setCell ⟨gb145, 2, none⟩ (.slice Ao36 t142.length co36)).heap[gb131]? = some (.cells #[.int .i64 a1] 2 (0, 0))) := ⟨by (with_reducible repeat (first | refine blk_drewN ?_ _ | refine blk_drew ?_ | refine blk_alloc ?_ _)); refine blk_far3 ?_ NB131_145.out; (with_reducible repeat (first | refine blk_drewN ?_ _ | refine blk_drew ?_ | refine blk_alloc ?_ _)); exact BK131.out⟩
 have n5_ : Aside0 ((((w27.setCell ⟨gb145, 0, none⟩ (.slice Ao28 t136.length co28)).setCell ⟨gb145, 1, none⟩ (.slice Ao35 t139.length co35)).setCell ⟨gb145, 2, none⟩ (.slice Ao36 t142.length co36)).heap[gb132]? = some (.cells #[.slice none 0 0, .slice none 0 0, .slice none 0 0] 27 (0, 0))) := ⟨by (with_reducible repeat (first | refine blk_drewN ?_ _ | refine blk_drew ?_ | refine blk_alloc ?_ _)); refine blk_far3 ?_ NB132_145.out; (with_reducible repeat (first | refine blk_drewN ?_ _ | refine blk_drew ?_ | refine blk_alloc ?_ _)); exact BK132.out⟩
 have n6_ : Aside0 ((((w27.setCell ⟨gb145, 0, none⟩ (.slice Ao28 t136.length co28)).setCell ⟨gb145, 1, none⟩ (.slice Ao35 t139.length co35)).setCell ⟨gb145, 2, none⟩ (.slice Ao36 t142.length co36)).heap[gb133]? = some (.cells #[.slice A0_0 l0_0.length c0_0, .slice A0_1 l0_1.length c0_1, .slice A0_2 l0_2.length c0_2] 27 (0, 0))) := ⟨by (with_reducible repeat (first | refine blk_drewN ?_ _ | refine blk_drew ?_ | refine blk_alloc ?_ _)); refine blk_far3 ?_ NB133_145.out; (with_reducible repeat (first | refine blk_drewN ?_ _ | refine blk_drew ?_ | refine blk_alloc ?_ _)); exact BK133.out⟩
 have n7_ : Aside0 ((((w27.setCell ⟨gb145, 0, none⟩ (.slice Ao28 t136.length co28)).setCell ⟨gb145, 1, none⟩ (.slice Ao35 t139.length co35)).setCell ⟨gb145, 2, none⟩ (.slice Ao36 t142.length co36)).heap[gb134]? = some (.cells #[.slice none 0 0, .slice none 0 0, .slice none 0 0] 27 (0, 0))) := ⟨by (with_reducible repeat (first | refine blk_drewN ?_ _ | refine blk_drew ?_ | refine blk_alloc ?_ _)); refine blk_far3 ?_ NB134_145.out; (with_reducible repeat (first | refine blk_drewN ?_ _ | refine blk_drew ?_ | refine blk_alloc ?_ _)); exact BK134.out⟩
 have n8_ : Aside0 ((((w27.setCell ⟨gb145, 0, none⟩ (.slice Ao28 t136.length co28)).setCell ⟨gb145, 1, none⟩ (.slice Ao35 t139.length co35)).setCell ⟨gb145, 2, none⟩ (.slice Ao36 t142.length co36)).heap[gb145]? = some (.cells #[.slice Ao28 t136.length co28, .slice Ao35 t139.length co35, .slice Ao36 t142.length co36] 27 (0, 0))) := ⟨by (with_reducible repeat (first | refine blk_drewN ?_ _ | refine blk_drew ?_ | refine blk_alloc ?_ _)); refine blk_put3 (cs := #[.slice none 0 0, .slice none 0 0, .slice none 0 0]) ?_ rfl; (with_reducible repeat (first | refine blk_drewN ?_ _ | refine blk_drew ?_ | refine blk_alloc ?_ _)); exact BK145.out⟩
 have n9_ : Aside0 (Below w.heap.size w (((w27.setCell ⟨gb145, 0, none⟩ (.slice Ao28 t136.length co28)).setCell ⟨gb145, 1, none⟩ (.slice Ao35 t139.length co35)).setCell ⟨gb145, 2, none⟩ (.slice Ao36 t142.length co36))) := ⟨by repeat (first | (with_reducible first | exact HB.out | apply below_alloc | apply pw_below_drewN | apply below_drew1 | refine below_set ?_ GE145.out) | exact HB.out)⟩
 (try clear HO138)
 (try clear HO141)
 (try clear HO144)
 (try clear BK130)
 (try clear BK131)
 (try clear BK132)
 (try clear BK133)
 (try clear BK134)
 (try clear BK145)
 (try clear HB)
 generalize (((w27.setCell ⟨gb145, 0, none⟩ (.slice Ao28 t136.length co28)).setCell ⟨gb145, 1, none⟩ (.slice Ao35 t139.length co35)).setCell ⟨gb145, 2, none⟩ (.slice Ao36 t142.length co36)) = w37 at n0_ n1_ n2_ n3_ n4_ n5_ n6_ n7_ n8_ n9_ ⊢
 have HO138 := n0_
 have HO141 := n1_
 have HO144 := n2_
 have BK130 := n3_
 have BK131 := n4_
 have BK132 := n5_
 have BK133 := n6_
 have BK134 := n7_
 have BK145 := n8_
 have HB := n9_
 clear n0_ n1_ n2_ n3_ n4_ n5_ n6_ n7_ n8_ n9_
 have n0_ := Aside0.mk (Kd.R_drew HO138.out)
 have n1_ := Aside0.mk (Kd.R_drew HO141.out)
 have n2_ := Aside0.mk (Kd.R_drew HO144.out)
 have n3_ := Aside0.mk (blk_drew BK130.out)
 have n4_ := Aside0.mk (blk_drew BK131.out)
 have n5_ := Aside0.mk (blk_drew BK132.out)
 have n6_ := Aside0.mk (blk_drew BK133.out)
 have n7_ := Aside0.mk (blk_drew BK134.out)
 have n8_ := Aside0.mk (blk_drew BK145.out)
 have n9_ := Aside0.mk (below_drew1 HB.out)
 clear HO138
 clear HO141
 clear HO144
 clear BK130
 clear BK131
 clear BK132
 clear BK133
 clear BK134
 clear BK145
 clear HB
 have HO138 := n0_
 have HO141 := n1_
 have HO144 := n2_
 have BK130 := n3_
 have BK131 := n4_
 have BK132 := n5_
 have BK133 := n6_
 have BK134 := n7_
 have BK145 := n8_
 have HB := n9_
 clear n0_ n1_ n2_ n3_ n4_ n5_ n6_ n7_ n8_ n9_
 refine start_ (n := 12) (S := fun w' => w'.cell? ⟨gb145, 0, none⟩ = some (.slice Ao28 t136.length co28) ∧ w'.cell? ⟨gb145, 1, none⟩ = some (.slice Ao35 t139.length co35) ∧ w'.cell? ⟨gb145, 2, none⟩ = some (.slice Ao36 t142.length co36)) (ds := []) m0_ s2_ rfl rfl ⟨(blk_cell BK145.out 0).trans rfl, (blk_cell BK145.out 1).trans rfl, (blk_cell BK145.out 2).trans rfl⟩ (fun hHeld => ?_)
 generalize w37.drew = w38 at HO138 HO141 HO144 BK130 BK131 BK132 BK133 BK134 BK145 HB hHeld ⊢
 refine pure_ (i := 0) (N := some 6) (v := ?_) (a' := ?_) m1_ rfl rfl s2_ (fun _ _ _ h => h) (Or.inl ⟨by rfl, ?_⟩) ?_ ?_
 rotate_left
 {
 intro w'
 go_simp
 with_reducible rfl}
 rotate_left
 · exact p1_
 refine pure_ (i := 1) (N := some 7) (v := ?_) (a' := ?_) m2_ rfl rfl s2_ (fun _ _ _ h => h) (Or.inl ⟨by rfl, ?_⟩) ?_ ?_
 rotate_left
 {
 intro w'
 go_simp
 with_reducible rfl}
 rotate_left
 · exact p1_
 refine pure_ (i := 2) (N := some 8) (v := ?_) (a' := ?_) m3_ rfl rfl s2_ (fun _ _ _ h => h) (Or.inl ⟨by rfl, ?_⟩) ?_ ?_
 rotate_left
 {
 intro w'
 go_simp
 with_reducible rfl}
 rotate_left
 · exact p1_
 refine pure_ (i := 5) (N := some 11) (v := ?_) (a' := ?_) m4_ rfl rfl s2_ (fun _ _ _ h => h) (Or.inl ⟨by rfl, ?_⟩) ?_ ?_
 rotate_left
 {
 intro w'
 go_simp
 with_reducible rfl}
 rotate_left
 · exact p1_
 refine pure_ (i := 6) (N := some 12) (v := ?_) (a' := ?_) m5_ rfl rfl s2_ (fun _ _ _ h => h) (Or.inl ⟨by rfl, ?_⟩) ?_ ?_
 rotate_left
 {
 intro w'
 go_simp
 with_reducible rfl}
 rotate_left
 · exact p1_
 refine pure_ (i := 7) (N := some 13) (v := ?_) (a' := ?_) m6_ rfl rfl s2_ (fun _ _ _ h => h) (Or.inl ⟨by rfl, ?_⟩) ?_ ?_
 rotate_left
 {
 intro w'
 go_simp
 with_reducible rfl}
 rotate_left
 · exact p1_
 refine take_ (i := 3) (N := some 9) (v := ?_) (a' := ?_) m7_ rfl rfl s2_ (fun _ _ _ h => h) (Or.inl ⟨by rfl, ?_⟩) hHeld ?_ ?_
 rotate_left
 {
 rintro w' ⟨s0, s1, s2⟩
 go_simp
 with_reducible rfl}
 rotate_left
 · exact p1_
 refine pure_ (i := 4) (N := some 10) (v := ?_) (a' := ?_) m8_ rfl rfl s2_ (fun _ _ _ h => h) (Or.inl ⟨by rfl, ?_⟩) ?_ ?_
 rotate_left
 {
 intro w'
 go_simp
 with_reducible rfl}
 rotate_left
 · exact p1_
 refine take_ (i := 8) (N := some 14) (v := ?_) (a' := ?_) m9_ rfl rfl s2_ (fun _ _ _ h => h) (Or.inl ⟨by rfl, ?_⟩) hHeld ?_ ?_
 rotate_left
 {
 rintro w' ⟨s0, s1, s2⟩
 go_simp
 with_reducible rfl}
 rotate_left
 · exact p1_
 refine pure_ (i := 9) (N := some 15) (v := ?_) (a' := ?_) m10_ rfl rfl s2_ (fun _ _ _ h => h) (Or.inl ⟨by rfl, ?_⟩) ?_ ?_
 rotate_left
 {
 intro w'
 go_simp
 with_reducible rfl}
 rotate_left
 · exact p1_
 refine pure_ (i := 10) (N := some 16) (v := ?_) (a' := ?_) m11_ rfl rfl s2_ (fun _ _ _ h => h) (Or.inl ⟨by rfl, ?_⟩) ?_ ?_
 rotate_left
 {
 intro w'
 go_simp
 with_reducible rfl}
 rotate_left
 · exact p1_
 refine pure_ (i := 11) (N := some 4) (v := ?_) (a' := ?_) m12_ rfl rfl s2_ (fun _ _ _ h => h) (Or.inl ⟨by rfl, ?_⟩) ?_ ?_
 rotate_left
 {
 intro w'
 go_simp
 with_reducible rfl}
 rotate_left
 · exact p1_
 refine done_ s2_ ?_
 try go_wp2_with (fail)
 have n0_ := Aside0.mk (Kd.R_drew HO138.out)
 have n1_ := Aside0.mk (Kd.R_drew HO141.out)
 have n2_ := Aside0.mk (Kd.R_drew HO144.out)
 have n3_ := Aside0.mk (blk_drew BK130.out)
 have n4_ := Aside0.mk (blk_drew BK131.out)
 have n5_ := Aside0.mk (blk_drew BK132.out)
 have n6_ := Aside0.mk (blk_drew BK133.out)
 have n7_ := Aside0.mk (blk_drew BK134.out)
 have n8_ := Aside0.mk (blk_drew BK145.out)
 have n9_ := Aside0.mk (below_drew1 HB.out)
 clear HO138
 clear HO141
 clear HO144
 clear BK130
 clear BK131
 clear BK132
 clear BK133
 clear BK134
 clear BK145
 clear HB
 have HO138 := n0_
 have HO141 := n1_
 have HO144 := n2_
 have BK130 := n3_
 have BK131 := n4_
 have BK132 := n5_
 have BK133 := n6_
 have BK134 := n7_
 have BK145 := n8_
 have HB := n9_
 clear n0_ n1_ n2_ n3_ n4_ n5_ n6_ n7_ n8_ n9_
 refine start_ (n := 20) (S := fun w' => w'.cell? ⟨gb145, 0, none⟩ = some (.slice Ao28 t136.length co28) ∧ w'.cell? ⟨gb145, 1, none⟩ = some (.slice Ao35 t139.length co35) ∧ w'.cell? ⟨gb145, 2, none⟩ = some (.slice Ao36 t142.length co36)) (ds := [16, 19]) m13_ s2_ rfl rfl ⟨(blk_cell BK145.out 0).trans rfl, (blk_cell BK145.out 1).trans rfl, (blk_cell BK145.out 2).trans rfl⟩ (fun hHeld => ?_)
 generalize w38.drew = w39 at HO138 HO141 HO144 BK130 BK131 BK132 BK133 BK134 BK145 HB hHeld ⊢
 refine pure_ (i := 0) (N := some 18) (v := ?_) (a' := ?_) m14_ rfl rfl s2_ (fun _ _ _ h => h) (Or.inl ⟨by rfl, ?_⟩) ?_ ?_
 rotate_left
 {
 intro w'
 go_simp
 with_reducible rfl}
 rotate_left
 · exact p1_
 refine pure_ (i := 1) (N := some 19) (v := ?_) (a' := ?_) m15_ rfl rfl s2_ (fun _ _ _ h => h) (Or.inl ⟨by rfl, ?_⟩) ?_ ?_
 rotate_left
 {
 intro w'
 go_simp
 with_reducible rfl}
 rotate_left
 · exact p1_
 refine pure_ (i := 2) (N := some 20) (v := ?_) (a' := ?_) m16_ rfl rfl s2_ (fun _ _ _ h => h) (Or.inl ⟨by rfl, ?_⟩) ?_ ?_
 rotate_left
 {
 intro w'
 go_simp
 with_reducible rfl}
 rotate_left
 · exact p1_
 refine pure_ (i := 3) (N := some 21) (v := ?_) (a' := ?_) m17_ rfl rfl s2_ (fun _ _ _ h => h) (Or.inl ⟨by rfl, ?_⟩) ?_ ?_
 rotate_left
 {
 intro w'
 go_simp
 with_reducible rfl}
 rotate_left
 · exact p1_
 refine pure_ (i := 4) (N := some 22) (v := ?_) (a' := ?_) m18_ rfl rfl s2_ (fun _ _ _ h => h) (Or.inl ⟨by rfl, ?_⟩) ?_ ?_
 rotate_left
 {
 intro w'
 go_simp
 with_reducible rfl}
 rotate_left
 · exact p1_
 refine pure_ (i := 6) (N := some 24) (v := ?_) (a' := ?_) m19_ rfl rfl s2_ (fun _ _ _ h => h) (Or.inl ⟨by rfl, ?_⟩) ?_ ?_
 rotate_left
 {
 intro w'
 go_simp
 with_reducible rfl}
 rotate_left
 · exact p1_
 refine pure_ (i := 8) (N := some 26) (v := ?_) (a' := ?_) m20_ rfl rfl s2_ (fun _ _ _ h => h) (Or.inl ⟨by rfl, ?_⟩) ?_ ?_
 rotate_left
 {
 intro w'
 go_simp
 with_reducible rfl}
 rotate_left
 · exact p1_
 refine pure_ (i := 9) (N := some 27) (v := ?_) (a' := ?_) m21_ rfl rfl s2_ (fun _ _ _ h => h) (Or.inl ⟨by rfl, ?_⟩) ?_ ?_
 rotate_left
 {
 intro w'
 go_simp
 with_reducible rfl}
 rotate_left
 · exact p1_
 refine pure_ (i := 10) (N := some 28) (v := ?_) (a' := ?_) m22_ rfl rfl s2_ (fun _ _ _ h => h) (Or.inl ⟨by rfl, ?_⟩) ?_ ?_
 rotate_left
 {
 intro w'
 go_simp
 with_reducible rfl}
 rotate_left
 · exact p1_
 refine pure_ (i := 12) (N := some 30) (v := ?_) (a' := ?_) m23_ rfl rfl s2_ (fun _ _ _ h => h) (Or.inl ⟨by rfl, ?_⟩) ?_ ?_
 rotate_left
 {
 intro w'
 go_simp
 with_reducible rfl}
 rotate_left
 · exact p1_
 refine take_ (i := 5) (N := some 23) (v := ?_) (a' := ?_) m24_ rfl rfl s2_ (fun _ _ _ h => h) (Or.inl ⟨by rfl, ?_⟩) hHeld ?_ ?_
 rotate_left
 {
 rintro w' ⟨s0, s1, s2⟩
 go_simp
 with_reducible rfl}
 rotate_left
 · exact p1_
 refine take_ (i := 11) (N := some 29) (v := ?_) (a' := ?_) m25_ rfl rfl s2_ (fun _ _ _ h => h) (Or.inl ⟨by rfl, ?_⟩) hHeld ?_ ?_
 rotate_left
 {
 rintro w' ⟨s0, s1, s2⟩
 go_simp
 with_reducible rfl}
 rotate_left
 · exact p1_
 refine one_ (i := 7) (N := some 25) m26_ rfl rfl s2_ (by decide) (fun K hK => ?_)
 refine goes_ Try.func53 s2_ rfl #[.slice Ao28 t136.length co28, .func (.func 52) #[] #[.pointer (some ⟨gb131, 0, none⟩)]] (by rfl) rfl rfl s3_ ?_
 with_reducible refine (impl_dropLeases_v0.calls k (fun k_ => some k_ = (.slice Ao28 t136.length co28 : Value).ownBlock) (.slice Ao28 t136.length co28) t136 gb131 a1 t146 w _ ?side1 ?side2 ?side3 A6.out).mono ?_
 (case side1 => repeat (first | (with_reducible first | exact HB.out | apply below_alloc | apply pw_below_drewN | apply below_drew1) | exact HB.out))
 (case side2 => exact (b1_ BK131.out))
 (case side3 => exact Kd.R_tight rfl HO138.out)
 rintro e w40 ⟨v147, rfl, ho0, hb, hkp⟩
 refine ⟨_, rfl, ?_⟩
 have n0_ := Aside0.mk (blk_kept (b1_ BK130.out) hkp (fun hs_ => (fun e_ => (Kd.R_ne HO138.out BK130.out (by decide)) e_) hs_))
 have n1_ := Aside0.mk (blk_kept (b1_ BK131.out) hkp (fun hs_ => (fun e_ => (Kd.R_ne HO138.out BK131.out (by decide)) e_) hs_))
 have n2_ := Aside0.mk (blk_kept (b1_ BK132.out) hkp (fun hs_ => (fun e_ => (Kd.R_ne HO138.out BK132.out (by decide)) e_) hs_))
 have n3_ := Aside0.mk (blk_kept (b1_ BK133.out) hkp (fun hs_ => (fun e_ => (Kd.R_ne HO138.out BK133.out (by decide)) e_) hs_))
 have n4_ := Aside0.mk (blk_kept (b1_ BK134.out) hkp (fun hs_ => (fun e_ => (Kd.R_ne HO138.out BK134.out (by decide)) e_) hs_))
 have n5_ := Aside0.mk (Kd.R_mono (ok' := fun k_ => some k_ ≠ (v147 : Value).ownBlock) (Kd.R_keptB (HO141.out) hkp (fun k_ hk_ hs_ => (hk_) hs_)) (fun k_ hk_ => fun e_ => Or.elim (ho0.1 k_ e_.symm) (fun hs_ => hk_.2.1 hs_) (fun hn_ => Nat.not_le.2 hk_.2.2 hn_)))
 have n6_ := Aside0.mk (Kd.R_mono (ok' := fun k_ => True) (Kd.R_keptB ((Kd.R_apart' HO144.out (Kd.R_typed HO138.out) (by decide))) hkp (fun k_ hk_ hs_ => (hk_.2) hs_)) (fun k_ hk_ => trivial))
 have n7_ := Aside0.mk (blk_kept (b1_ BK145.out) hkp (fun hs_ => (fun e_ => (Kd.R_ne HO138.out BK145.out (by decide)) e_) hs_))
 have n8_ := Aside0.mk (Kd.R_mono (ok' := fun k_ => some k_ ≠ (.slice Ao35 t139.length co35 : Value).ownBlock) ho0 (fun k_ hk_ => Or.elim hk_ (fun hs_ => fun e_ => (((HO141.out).1 k_ e_.symm)) hs_) (fun hn_ => (Kd.fresh' (Kd.R_lt (b2_ HO141.out)) k_ hn_))))
 have n9_ := Aside0.mk (hb)
 clear BK130
 clear BK131
 clear BK132
 clear BK133
 clear BK134
 clear HO141
 clear HO144
 clear BK145
 clear HB
 clear HO138
 have BK130 := n0_
 have BK131 := n1_
 have BK132 := n2_
 have BK133 := n3_
 have BK134 := n4_
 have HO141 := n5_
 have HO144 := n6_
 have BK145 := n7_
 have HO148 := n8_
 have HB := n9_
 clear n0_ n1_ n2_ n3_ n4_ n5_ n6_ n7_ n8_ n9_
 (try clear hb)
 (try clear hkp)
 (try clear ho0)
 refine hK.out _ _ ⟨(blk_cell BK145.out 0).trans rfl, (blk_cell BK145.out 1).trans rfl, (blk_cell BK145.out 2).trans rfl⟩ (fun hHeld => ?_)
 clear hK K
 refine norm_ (a' := ?_) ?_ ?_
 rotate_left
 {
 show Act.put _ (some 25) _ = _
 simp only [Act.put, List.setIfInBounds_toArray, List.set_cons_zero, List.set_cons_succ, i64_w, i32_w]
 rfl}
 refine one_ (i := 13) (N := some 31) m27_ rfl rfl s2_ (by decide) (fun K hK => ?_)
 refine goes_ Try.func53 s2_ rfl #[.slice Ao35 t139.length co35, .func (.func 52) #[] #[.pointer (some ⟨gb131, 0, none⟩)]] (by rfl) rfl rfl s3_ ?_
 with_reducible refine (impl_dropLeases_v0.calls k (fun k_ => some k_ = (.slice Ao35 t139.length co35 : Value).ownBlock) (.slice Ao35 t139.length co35) t139 gb131 a1 t149 w _ ?side1 ?side2 ?side3 A7.out).mono ?_
 (case side1 => repeat (first | (with_reducible first | exact HB.out | apply below_alloc | apply pw_below_drewN | apply below_drew1) | exact HB.out))
 (case side2 => exact (b1_ BK131.out))
 (case side3 => exact Kd.R_tight rfl HO141.out)
 rintro e w41 ⟨v150, rfl, ho0, hb, hkp⟩
 refine ⟨_, rfl, ?_⟩
 have n0_ := Aside0.mk (blk_kept (b1_ BK130.out) hkp (fun hs_ => (fun e_ => (Kd.R_ne HO141.out BK130.out (by decide)) e_) hs_))
 have n1_ := Aside0.mk (blk_kept (b1_ BK131.out) hkp (fun hs_ => (fun e_ => (Kd.R_ne HO141.out BK131.out (by decide)) e_) hs_))
 have n2_ := Aside0.mk (blk_kept (b1_ BK132.out) hkp (fun hs_ => (fun e_ => (Kd.R_ne HO141.out BK132.out (by decide)) e_) hs_))
 have n3_ := Aside0.mk (blk_kept (b1_ BK133.out) hkp (fun hs_ => (fun e_ => (Kd.R_ne HO141.out BK133.out (by decide)) e_) hs_))
 have n4_ := Aside0.mk (blk_kept (b1_ BK134.out) hkp (fun hs_ => (fun e_ => (Kd.R_ne HO141.out BK134.out (by decide)) e_) hs_))
 have n5_ := Aside0.mk (Kd.R_mono (ok' := fun k_ => True) (Kd.R_keptB ((Kd.R_apart' HO144.out (Kd.R_typed HO141.out) (by decide))) hkp (fun k_ hk_ hs_ => (hk_.2) hs_)) (fun k_ hk_ => trivial))
 have n6_ := Aside0.mk (blk_kept (b1_ BK145.out) hkp (fun hs_ => (fun e_ => (Kd.R_ne HO141.out BK145.out (by decide)) e_) hs_))
 have n7_ := Aside0.mk (Kd.R_mono (ok' := fun k_ => some k_ ≠ (v150 : Value).ownBlock) (Kd.R_keptB (HO148.out) hkp (fun k_ hk_ hs_ => (hk_) hs_)) (fun k_ hk_ => fun e_ => Or.elim (ho0.1 k_ e_.symm) (fun hs_ => hk_.2.1 hs_) (fun hn_ => Nat.not_le.2 hk_.2.2 hn_)))
 have n8_ := Aside0.mk (Kd.R_mono (ok' := fun k_ => some k_ ≠ (v147 : Value).ownBlock) ho0 (fun k_ hk_ => Or.elim hk_ (fun hs_ => fun e_ => (((HO148.out).1 k_ e_.symm)) hs_) (fun hn_ => (Kd.fresh' (Kd.R_lt (b2_ HO148.out)) k_ hn_))))
 have n9_ := Aside0.mk (hb)
 clear BK130
 clear BK131
 clear BK132
 clear BK133
 clear BK134
 clear HO144
 clear BK145
 clear HO148
 clear HB
 clear HO141
 have BK130 := n0_
 have BK131 := n1_
 have BK132 := n2_
 have BK133 := n3_
 have BK134 := n4_
 have HO144 := n5_
 have BK145 := n6_
 have HO148 := n7_
 have HO151 := n8_
 have HB := n9_
 clear n0_ n1_ n2_ n3_ n4_ n5_ n6_ n7_ n8_ n9_
 (try clear hb)
 (try clear hkp)
 (try clear ho0)
 obtain ⟨Ao42, co42, eo42⟩ := Kd.R_slice HO148.out
 (first | subst eo42 | (injection eo42 with f1_ f2_ f3_; have f4_ := f1_.symm; have f5_ := f3_.symm; clear f1_ f2_ f3_; subst f4_; subst f5_))
 obtain ⟨Ao44, co44, eo44⟩ := Kd.R_slice HO151.out
 (first | subst eo44 | (injection eo44 with f1_ f2_ f3_; have f4_ := f1_.symm; have f5_ := f3_.symm; clear f1_ f2_ f3_; subst f4_; subst f5_))
 refine hK.out _ _ ⟨(blk_cell BK145.out 0).trans rfl, (blk_cell BK145.out 1).trans rfl, (blk_cell BK145.out 2).trans rfl⟩ (fun hHeld => ?_)
 clear hK K
 refine norm_ (a' := ?_) ?_ ?_
 rotate_left
 {
 show Act.put _ (some 31) _ = _
 simp only [Act.put, List.setIfInBounds_toArray, List.set_cons_zero, List.set_cons_succ, i64_w, i32_w]
 rfl}
 refine pure_ (i := 14) (N := some 32) (v := ?_) (a' := ?_) m28_ rfl rfl s2_ (fun _ _ _ h => h) (Or.inl ⟨by rfl, ?_⟩) ?_ ?_
 rotate_left
 {
 intro w'
 go_simp
 with_reducible rfl}
 rotate_left
 · exact p1_
 refine pure_ (i := 15) (N := some 33) (v := ?_) (a' := ?_) m29_ rfl rfl s2_ (fun _ _ _ h => h) (Or.inl ⟨by rfl, ?_⟩) ?_ ?_
 rotate_left
 {
 intro w'
 go_simp
 with_reducible rfl}
 rotate_left
 · exact p1_
 refine last_ (i := 16) (N := none) m30_ rfl rfl s2_ (by decide) (fun K hK => ?_)
 have hs43 : w41.cell? ⟨gb145, 0, none⟩ = some (.slice Ao28 t136.length co28) := (blk_cell BK145.out 0).trans rfl
 have hfs43 := blk_frozen BK145.out 0
 have hns43_0 := NB130_145.out
 have hns43_1 := NB131_145.out
 have hns43_2 := NB132_145.out
 have hns43_3 := NB133_145.out
 have hns43_4 := NB134_145.out
 have hms43_0 := NB145_130.out
 have hms43_1 := NB145_131.out
 have hms43_2 := NB145_132.out
 have hms43_3 := NB145_133.out
 have hms43_4 := NB145_134.out
 refine skip_ (w1 := ?_) (by rfl) rfl ?_ ?_
 rotate_left
 {
 go_simp
 rfl}
 refine hK.out _ _ ?_
 clear hK K
 refine pure_ (i := 17) (N := some 34) (v := ?_) (a' := ?_) m31_ rfl rfl s2_ (fun _ _ _ h => h) (Or.inl ⟨by rfl, ?_⟩) ?_ ?_
 rotate_left
 {
 intro w'
 go_simp
 with_reducible rfl}
 rotate_left
 · exact p1_
 refine pure_ (i := 18) (N := some 35) (v := ?_) (a' := ?_) m32_ rfl rfl s2_ (fun _ _ _ h => h) (Or.inl ⟨by rfl, ?_⟩) ?_ ?_
 rotate_left
 {
 intro w'
 go_simp
 with_reducible rfl}
 rotate_left
 · exact p1_
 refine last_ (i := 19) (N := none) m33_ rfl rfl s2_ (by decide) (fun K hK => ?_)
 have hs45 : w41.cell? ⟨gb145, 1, none⟩ = some (.slice Ao35 t139.length co35) := (blk_cell BK145.out 1).trans rfl
 have hfs45 := blk_frozen BK145.out 1
 have hns45_0 := NB130_145.out
 have hns45_1 := NB131_145.out
 have hns45_2 := NB132_145.out
 have hns45_3 := NB133_145.out
 have hns45_4 := NB134_145.out
 have hms45_0 := NB145_130.out
 have hms45_1 := NB145_131.out
 have hms45_2 := NB145_132.out
 have hms45_3 := NB145_133.out
 have hms45_4 := NB145_134.out
 refine skip_ (w1 := ?_) (by rfl) rfl ?_ ?_
 rotate_left
 {
 go_simp
 rfl}
 refine hK.out _ _ ?_
 clear hK K
 refine done_ s2_ ?_
 try go_wp2_with (fail)
 have n0_ : Aside0 (Kd.R k73 73 ((w41.setCell ⟨gb145, 0, none⟩ (.slice Ao42 t146.length co42)).setCell ⟨gb145, 1, none⟩ (.slice Ao44 t149.length co44)) w.heap.size (fun _ => True) (.slice Ao36 t142.length co36) t142) := ⟨by (with_reducible repeat (first | apply Kd.R_alloc | apply Kd.R_drewN | apply Kd.R_drew)); exact Kd.R_mono (Kd.R_far (p := ⟨gb145, 1, none⟩) (Kd.R_far (p := ⟨gb145, 0, none⟩) (Kd.R_types HO144.out BK145.out (by decide)) (fun _ hk => hk.2) (.slice Ao42 t146.length co42)) (fun _ hk => hk.2) (.slice Ao44 t149.length co44)) (fun _ hk => trivial)⟩
 have n1_ : Aside0 (Kd.R k63 63 ((w41.setCell ⟨gb145, 0, none⟩ (.slice Ao42 t146.length co42)).setCell ⟨gb145, 1, none⟩ (.slice Ao44 t149.length co44)) w.heap.size (fun k_ => some k_ ≠ (.slice Ao44 t149.length co44 : Value).ownBlock) (.slice Ao42 t146.length co42) t146) := ⟨by (with_reducible repeat (first | apply Kd.R_alloc | apply Kd.R_drewN | apply Kd.R_drew)); exact Kd.R_mono (Kd.R_far (p := ⟨gb145, 1, none⟩) (Kd.R_far (p := ⟨gb145, 0, none⟩) (Kd.R_types HO148.out BK145.out (by decide)) (fun _ hk => hk.2) (.slice Ao42 t146.length co42)) (fun _ hk => hk.2) (.slice Ao44 t149.length co44)) (fun _ hk => hk.1)⟩
 have n2_ : Aside0 (Kd.R k63 63 ((w41.setCell ⟨gb145, 0, none⟩ (.slice Ao42 t146.length co42)).setCell ⟨gb145, 1, none⟩ (.slice Ao44 t149.length co44)) w.heap.size (fun k_ => some k_ ≠ (.slice Ao42 t146.length co42 : Value).ownBlock) (.slice Ao44 t149.length co44) t149) := ⟨by (with_reducible repeat (first | apply Kd.R_alloc | apply Kd.R_drewN | apply Kd.R_drew)); exact Kd.R_mono (Kd.R_far (p := ⟨gb145, 1, none⟩) (Kd.R_far (p := ⟨gb145, 0, none⟩) (Kd.R_types HO151.out BK145.out (by decide)) (fun _ hk => hk.2) (.slice Ao42 t146.length co42)) (fun _ hk => hk.2) (.slice Ao44 t149.length co44)) (fun _ hk => hk.1)⟩
 have n3_ : Aside0 (((w41.setCell ⟨gb145, 0, none⟩ (.slice Ao42 t146.length co42)).setCell ⟨gb145, 1, none⟩ (.slice Ao44 t149.length co44)).heap[gb130]? = some (.cells #[.slice A0_0 l0_0.length c0_0, .slice A0_1 l0_1.length c0_1, .slice A0_2 l0_2.length c0_2] 27 (0, 0))) := ⟨by (with_reducible repeat (first | refine blk_drewN ?_ _ | refine blk_drew ?_ | refine blk_alloc ?_ _)); refine blk_far ?_ NB130_145.out _; (with_reducible repeat (first | refine blk_drewN ?_ _ | refine blk_drew ?_ | refine blk_alloc ?_ _)); refine blk_far ?_ NB130_145.out _; (with_reducible repeat (first | refine blk_drewN ?_ _ | refine blk_drew ?_ | refine blk_alloc ?_ _)); exact BK130.out⟩
 have n4_ : Aside0 (((w41.setCell ⟨gb145, 0, none⟩ (.slice Ao42 t146.length co42)).setCell ⟨gb145, 1, none⟩ (.slice Ao44 t149.length co44)).heap[gb131]? = some (.cells #[.int .i64 a1] 2 (0, 0))) := ⟨by (with_reducible repeat (first | refine blk_drewN ?_ _ | refine blk_drew ?_ | refine blk_alloc ?_ _)); refine blk_far ?_ NB131_145.out _; (with_reducible repeat (first | refine blk_drewN ?_ _ | refine blk_drew ?_ | refine blk_alloc ?_ _)); refine blk_far ?_ NB131_145.out _; (with_reducible repeat (first | refine blk_drewN ?_ _ | refine blk_drew ?_ | refine blk_alloc ?_ _)); exact BK131.out⟩
 have n5_ : Aside0 (((w41.setCell ⟨gb145, 0, none⟩ (.slice Ao42 t146.length co42)).setCell ⟨gb145, 1, none⟩ (.slice Ao44 t149.length co44)).heap[gb132]? = some (.cells #[.slice none 0 0, .slice none 0 0, .slice none 0 0] 27 (0, 0))) := ⟨by (with_reducible repeat (first | refine blk_drewN ?_ _ | refine blk_drew ?_ | refine blk_alloc ?_ _)); refine blk_far ?_ NB132_145.out _; (with_reducible repeat (first | refine blk_drewN ?_ _ | refine blk_drew ?_ | refine blk_alloc ?_ _)); refine blk_far ?_ NB132_145.out _; (with_reducible repeat (first | refine blk_drewN ?_ _ | refine blk_drew ?_ | refine blk_alloc ?_ _)); exact BK132.out⟩
 have n6_ : Aside0 (((w41.setCell ⟨gb145, 0, none⟩ (.slice Ao42 t146.length co42)).setCell ⟨gb145, 1, none⟩ (.slice Ao44 t149.length co44)).heap[gb133]? = some (.cells #[.slice A0_0 l0_0.length c0_0, .slice A0_1 l0_1.length c0_1, .slice A0_2 l0_2.length c0_2] 27 (0, 0))) := ⟨by (with_reducible repeat (first | refine blk_drewN ?_ _ | refine blk_drew ?_ | refine blk_alloc ?_ _)); refine blk_far ?_ NB133_145.out _; (with_reducible repeat (first | refine blk_drewN ?_ _ | refine blk_drew ?_ | refine blk_alloc ?_ _)); refine blk_far ?_ NB133_145.out _; (with_reducible repeat (first | refine blk_drewN ?_ _ | refine blk_drew ?_ | refine blk_alloc ?_ _)); exact BK133.out⟩
 have n7_ : Aside0 (((w41.setCell ⟨gb145, 0, none⟩ (.slice Ao42 t146.length co42)).setCell ⟨gb145, 1, none⟩ (.slice Ao44 t149.length co44)).heap[gb134]? = some (.cells #[.slice none 0 0, .slice none 0 0, .slice none 0 0] 27 (0, 0))) := ⟨by (with_reducible repeat (first | refine blk_drewN ?_ _ | refine blk_drew ?_ | refine blk_alloc ?_ _)); refine blk_far ?_ NB134_145.out _; (with_reducible repeat (first | refine blk_drewN ?_ _ | refine blk_drew ?_ | refine blk_alloc ?_ _)); refine blk_far ?_ NB134_145.out _; (with_reducible repeat (first | refine blk_drewN ?_ _ | refine blk_drew ?_ | refine blk_alloc ?_ _)); exact BK134.out⟩
 have n8_ : Aside0 (((w41.setCell ⟨gb145, 0, none⟩ (.slice Ao42 t146.length co42)).setCell ⟨gb145, 1, none⟩ (.slice Ao44 t149.length co44)).heap[gb145]? = some (.cells #[.slice Ao42 t146.length co42, .slice Ao44 t149.length co44, .slice Ao36 t142.length co36] 27 (0, 0))) := ⟨by (with_reducible repeat (first | refine blk_drewN ?_ _ | refine blk_drew ?_ | refine blk_alloc ?_ _)); refine blk_put (cs := #[.slice Ao42 t146.length co42, .slice Ao35 t139.length co35, .slice Ao36 t142.length co36]) ?_ 1 _ rfl; (with_reducible repeat (first | refine blk_drewN ?_ _ | refine blk_drew ?_ | refine blk_alloc ?_ _)); refine blk_put (cs := #[.slice Ao28 t136.length co28, .slice Ao35 t139.length co35, .slice Ao36 t142.length co36]) ?_ 0 _ rfl; (with_reducible repeat (first | refine blk_drewN ?_ _ | refine blk_drew ?_ | refine blk_alloc ?_ _)); exact BK145.out⟩
 have n9_ : Aside0 (Below w.heap.size w ((w41.setCell ⟨gb145, 0, none⟩ (.slice Ao42 t146.length co42)).setCell ⟨gb145, 1, none⟩ (.slice Ao44 t149.length co44))) := ⟨by repeat (first | (with_reducible first | exact HB.out | apply below_alloc | apply pw_below_drewN | apply below_drew1 | refine below_set ?_ GE145.out) | exact HB.out)⟩
 (try clear HO144)
 (try clear HO148)
 (try clear HO151)
 (try clear BK130)
 (try clear BK131)
 (try clear BK132)
 (try clear BK133)
 (try clear BK134)
 (try clear BK145)
 (try clear HB)
 generalize ((w41.setCell ⟨gb145, 0, none⟩ (.slice Ao42 t146.length co42)).setCell ⟨gb145, 1, none⟩ (.slice Ao44 t149.length co44)) = w46 at n0_ n1_ n2_ n3_ n4_ n5_ n6_ n7_ n8_ n9_ ⊢
 have HO144 := n0_
 have HO148 := n1_
 have HO151 := n2_
 have BK130 := n3_
 have BK131 := n4_
 have BK132 := n5_
 have BK133 := n6_
 have BK134 := n7_
 have BK145 := n8_
 have HB := n9_
 clear n0_ n1_ n2_ n3_ n4_ n5_ n6_ n7_ n8_ n9_
 have n0_ := Aside0.mk (Kd.R_drew HO144.out)
 have n1_ := Aside0.mk (Kd.R_drew HO148.out)
 have n2_ := Aside0.mk (Kd.R_drew HO151.out)
 have n3_ := Aside0.mk (blk_drew BK130.out)
 have n4_ := Aside0.mk (blk_drew BK131.out)
 have n5_ := Aside0.mk (blk_drew BK132.out)
 have n6_ := Aside0.mk (blk_drew BK133.out)
 have n7_ := Aside0.mk (blk_drew BK134.out)
 have n8_ := Aside0.mk (blk_drew BK145.out)
 have n9_ := Aside0.mk (below_drew1 HB.out)
 clear HO144
 clear HO148
 clear HO151
 clear BK130
 clear BK131
 clear BK132
 clear BK133
 clear BK134
 clear BK145
 clear HB
 have HO144 := n0_
 have HO148 := n1_
 have HO151 := n2_
 have BK130 := n3_
 have BK131 := n4_
 have BK132 := n5_
 have BK133 := n6_
 have BK134 := n7_
 have BK145 := n8_
 have HB := n9_
 clear n0_ n1_ n2_ n3_ n4_ n5_ n6_ n7_ n8_ n9_
 refine start_ (n := 14) (S := fun w' => w'.cell? ⟨gb145, 0, none⟩ = some (.slice Ao42 t146.length co42) ∧ w'.cell? ⟨gb145, 1, none⟩ = some (.slice Ao44 t149.length co44) ∧ w'.cell? ⟨gb145, 2, none⟩ = some (.slice Ao36 t142.length co36)) (ds := []) m34_ s2_ rfl rfl ⟨(blk_cell BK145.out 0).trans rfl, (blk_cell BK145.out 1).trans rfl, (blk_cell BK145.out 2).trans rfl⟩ (fun hHeld => ?_)
 generalize w46.drew = w47 at HO144 HO148 HO151 BK130 BK131 BK132 BK133 BK134 BK145 HB hHeld ⊢
 refine pure_ (i := 0) (N := some 36) (v := ?_) (a' := ?_) m35_ rfl rfl s2_ (fun _ _ _ h => h) (Or.inl ⟨by rfl, ?_⟩) ?_ ?_
 rotate_left
 {
 intro w'
 go_simp
 with_reducible rfl}
 rotate_left
 · exact p1_
 refine pure_ (i := 1) (N := some 37) (v := ?_) (a' := ?_) m36_ rfl rfl s2_ (fun _ _ _ h => h) (Or.inl ⟨by rfl, ?_⟩) ?_ ?_
 rotate_left
 {
 intro w'
 go_simp
 with_reducible rfl}
 rotate_left
 · exact p1_
 refine pure_ (i := 2) (N := some 38) (v := ?_) (a' := ?_) m37_ rfl rfl s2_ (fun _ _ _ h => h) (Or.inl ⟨by rfl, ?_⟩) ?_ ?_
 rotate_left
 {
 intro w'
 go_simp
 with_reducible rfl}
 rotate_left
 · exact p1_
 refine pure_ (i := 5) (N := some 41) (v := ?_) (a' := ?_) m38_ rfl rfl s2_ (fun _ _ _ h => h) (Or.inl ⟨by rfl, ?_⟩) ?_ ?_
 rotate_left
 {
 intro w'
 go_simp
 with_reducible rfl}
 rotate_left
 · exact p1_
 refine pure_ (i := 6) (N := some 42) (v := ?_) (a' := ?_) m39_ rfl rfl s2_ (fun _ _ _ h => h) (Or.inl ⟨by rfl, ?_⟩) ?_ ?_
 rotate_left
 {
 intro w'
 go_simp
 with_reducible rfl}
 rotate_left
 · exact p1_
 refine pure_ (i := 7) (N := some 43) (v := ?_) (a' := ?_) m40_ rfl rfl s2_ (fun _ _ _ h => h) (Or.inl ⟨by rfl, ?_⟩) ?_ ?_
 rotate_left
 {
 intro w'
 go_simp
 with_reducible rfl}
 rotate_left
 · exact p1_
 refine pure_ (i := 11) (N := some 47) (v := ?_) (a' := ?_) m41_ rfl rfl s2_ (fun _ _ _ h => h) (Or.inl ⟨by rfl, ?_⟩) ?_ ?_
 rotate_left
 {
 intro w'
 go_simp
 with_reducible rfl}
 rotate_left
 · exact p1_
 refine take_ (i := 3) (N := some 39) (v := ?_) (a' := ?_) m42_ rfl rfl s2_ (fun _ _ _ h => h) (Or.inl ⟨by rfl, ?_⟩) hHeld ?_ ?_
 rotate_left
 {
 rintro w' ⟨s0, s1, s2⟩
 go_simp
 with_reducible rfl}
 rotate_left
 · exact p1_
 refine pure_ (i := 4) (N := some 40) (v := ?_) (a' := ?_) m43_ rfl rfl s2_ (fun _ _ _ h => h) (Or.inl ⟨by rfl, ?_⟩) ?_ ?_
 rotate_left
 {
 intro w'
 go_simp
 with_reducible rfl}
 rotate_left
 · exact p1_
 refine take_ (i := 8) (N := some 44) (v := ?_) (a' := ?_) m44_ rfl rfl s2_ (fun _ _ _ h => h) (Or.inl ⟨by rfl, ?_⟩) hHeld ?_ ?_
 rotate_left
 {
 rintro w' ⟨s0, s1, s2⟩
 go_simp
 with_reducible rfl}
 rotate_left
 · exact p1_
 refine pure_ (i := 9) (N := some 45) (v := ?_) (a' := ?_) m45_ rfl rfl s2_ (fun _ _ _ h => h) (Or.inl ⟨by rfl, ?_⟩) ?_ ?_
 rotate_left
 {
 intro w'
 go_simp
 with_reducible rfl}
 rotate_left
 · exact p1_
 refine pure_ (i := 10) (N := some 46) (v := ?_) (a' := ?_) m46_ rfl rfl s2_ (fun _ _ _ h => h) (Or.inl ⟨by rfl, ?_⟩) ?_ ?_
 rotate_left
 {
 intro w'
 go_simp
 with_reducible rfl}
 rotate_left
 · exact p1_
 refine pure_ (i := 12) (N := some 48) (v := ?_) (a' := ?_) m47_ rfl rfl s2_ (fun _ _ _ h => h) (Or.inl ⟨by rfl, ?_⟩) ?_ ?_
 rotate_left
 {
 intro w'
 go_simp
 with_reducible rfl}
 rotate_left
 · exact p1_
 refine pure_ (i := 13) (N := some 3) (v := ?_) (a' := ?_) m48_ rfl rfl s2_ (fun _ _ _ h => h) (Or.inl ⟨by rfl, ?_⟩) ?_ ?_
 rotate_left
 {
 intro w'
 go_simp
 with_reducible rfl}
 rotate_left
 · exact p1_
 refine done_ s2_ ?_
 have hcz48_0 : w47.cell? ⟨gb145, 0, none⟩ = some (.slice Ao42 t146.length co42) := (blk_cell BK145.out 0).trans rfl
 have hcz48_1 : w47.cell? ⟨gb145, 1, none⟩ = some (.slice Ao44 t149.length co44) := (blk_cell BK145.out 1).trans rfl
 have hcz48_2 : w47.cell? ⟨gb145, 2, none⟩ = some (.slice Ao36 t142.length co36) := (blk_cell BK145.out 2).trans rfl
 have hfz48_0 := blk_frozen BK145.out 0
 have hfz48_1 := blk_frozen BK145.out 1
 have hfz48_2 := blk_frozen BK145.out 2
 try go_wp2_with (first | (go_at_call 19; (with_reducible refine (impl_ValidPresence.calls k _ _ t146 _ _ t149 _ _ t142 true _ ?side1 ?side2 ?side3 ?side4 ?side5 ?side6 A9.out).mono ?_); (case side1 => exact y2_ (Kd.R_reads' HO148.out).2.2); (case side2 => exact (Kd.R_reads' HO148.out).2.1); (case side3 => exact y2_ (Kd.R_reads' HO151.out).2.2); (case side4 => exact (Kd.R_reads' HO151.out).2.1); (case side5 => exact y2_ (Kd.R_reads' HO144.out).2.2); (case side6 => exact (Kd.R_reads' HO144.out).2.1); rintro e w49 ⟨rfl, hb⟩; have n0_ := Aside0.mk (Kd.R_below (b2_ HO144.out) hb); have n1_ := Aside0.mk (Kd.R_below (b2_ HO148.out) hb); have n2_ := Aside0.mk (Kd.R_below (b2_ HO151.out) hb); have n3_ := Aside0.mk (blk_below (g := gb130) (o := .cells #[.slice A0_0 l0_0.length c0_0, .slice A0_1 l0_1.length c0_1, .slice A0_2 l0_2.length c0_2] 27 (0, 0)) (b1_ BK130.out) hb); have n4_ := Aside0.mk (blk_below (g := gb131) (o := .cells #[.int .i64 a1] 2 (0, 0)) (b1_ BK131.out) hb); have n5_ := Aside0.mk (blk_below (g := gb132) (o := .cells #[.slice none 0 0, .slice none 0 0, .slice none 0 0] 27 (0, 0)) (b1_ BK132.out) hb); have n6_ := Aside0.mk (blk_below (g := gb133) (o := .cells #[.slice A0_0 l0_0.length c0_0, .slice A0_1 l0_1.length c0_1, .slice A0_2 l0_2.length c0_2] 27 (0, 0)) (b1_ BK133.out) hb); have n7_ := Aside0.mk (blk_below (g := gb134) (o := .cells #[.slice none 0 0, .slice none 0 0, .slice none 0 0] 27 (0, 0)) (b1_ BK134.out) hb); have n8_ := Aside0.mk (blk_below (g := gb145) (o := .cells #[.slice Ao42 t146.length co42, .slice Ao44 t149.length co44, .slice Ao36 t142.length co36] 27 (0, 0)) (b1_ BK145.out) hb); have n9_ := Aside0.mk (below_step (y1_ HB.out) hb); clear HO144; clear HO148; clear HO151; clear BK130; clear BK131; clear BK132; clear BK133; clear BK134; clear BK145; clear HB; have HO144 := n0_; have HO148 := n1_; have HO151 := n2_; have BK130 := n3_; have BK131 := n4_; have BK132 := n5_; have BK133 := n6_; have BK134 := n7_; have BK145 := n8_; have HB := n9_; clear n0_ n1_ n2_ n3_ n4_ n5_ n6_ n7_ n8_ n9_; (try clear hb); (try clear hb2); (try clear hk); (try clear hi); have hcz50_0 : w49.cell? ⟨gb145, 0, none⟩ = some (.slice Ao42 t146.length co42) := (blk_cell BK145.out 0).trans rfl; have hcz50_1 : w49.cell? ⟨gb145, 1, none⟩ = some (.slice Ao44 t149.length co44) := (blk_cell BK145.out 1).trans rfl; have hcz50_2 : w49.cell? ⟨gb145, 2, none⟩ = some (.slice Ao36 t142.length co36) := (blk_cell BK145.out 2).trans rfl; have hfz50_0 := blk_frozen BK145.out 0; have hfz50_1 := blk_frozen BK145.out 1; have hfz50_2 := blk_frozen BK145.out 2; have hnb51 := NB134_130.out; have hnc51 := NB130_134.out; have hnb52 := NB134_131.out; have hnc52 := NB131_134.out; have hnb53 := NB134_132.out; have hnc53 := NB132_134.out; have hcz54_0 : w49.cell? ⟨gb134, 0, none⟩ = some (.slice none 0 0) := (blk_cell BK134.out 0).trans rfl; have hcz54_1 : w49.cell? ⟨gb134, 1, none⟩ = some (.slice none 0 0) := (blk_cell BK134.out 1).trans rfl; have hcz54_2 : w49.cell? ⟨gb134, 2, none⟩ = some (.slice none 0 0) := (blk_cell BK134.out 2).trans rfl; have hfz54_0 := blk_frozen BK134.out 0; have hfz54_1 := blk_frozen BK134.out 1; have hfz54_2 := blk_frozen BK134.out 2))
 (try simp only [Exit.inBlock, Exit.then])
 refine bodyPost_ret (results_ct rfl _ _ gb134 27 #[.slice Ao42 t146.length co42, .slice Ao44 t149.length co44, .slice Ao36 t142.length co36] (0, 0) _ rfl (by (with_reducible repeat (first | refine blk_drewN ?_ _ | refine blk_drew ?_ | refine blk_alloc ?_ _)); refine blk_put3 (cs := #[.slice none 0 0, .slice none 0 0, .slice none 0 0]) ?_ rfl; (with_reducible repeat (first | refine blk_drewN ?_ _ | refine blk_drew ?_ | refine blk_alloc ?_ _)); exact BK134.out) Try.underlying27 rfl s2_) rfl ?_
 (try simp only [])
 have hnb55 := NB132_131.out
 have hnc55 := NB131_132.out
 have hcz56_0 : w49.cell? ⟨gb132, 0, none⟩ = some (.slice none 0 0) := (blk_cell BK132.out 0).trans rfl
 have hcz56_1 : w49.cell? ⟨gb132, 1, none⟩ = some (.slice none 0 0) := (blk_cell BK132.out 1).trans rfl
 have hcz56_2 : w49.cell? ⟨gb132, 2, none⟩ = some (.slice none 0 0) := (blk_cell BK132.out 2).trans rfl
 have hfz56_0 := blk_frozen BK132.out 0
 have hfz56_1 := blk_frozen BK132.out 1
 have hfz56_2 := blk_frozen BK132.out 2
 try go_wp2_with (fail)
 refine bodyPost_ret (results_ct rfl _ _ gb132 27 #[.slice Ao42 t146.length co42, .slice Ao44 t149.length co44, .slice Ao36 t142.length co36] (0, 0) _ rfl (by (with_reducible repeat (first | refine blk_drewN ?_ _ | refine blk_drew ?_ | refine blk_alloc ?_ _)); refine blk_put3 (cs := #[.slice none 0 0, .slice none 0 0, .slice none 0 0]) ?_ rfl; (with_reducible repeat (first | refine blk_drewN ?_ _ | refine blk_drew ?_ | refine blk_alloc ?_ _)); refine blk_far3 ?_ NB132_134.out; (with_reducible repeat (first | refine blk_drewN ?_ _ | refine blk_drew ?_ | refine blk_alloc ?_ _)); exact BK132.out) Try.underlying27 rfl s2_) rfl ?_
 exact ⟨_, _, _, by first | rfl | (simp [errW_none, errW_some] <;> rfl) | (simp [*, errW_none, errW_some] <;> rfl), by (with_reducible repeat (first | apply Kd.R_alloc | apply Kd.R_drewN | apply Kd.R_drew)); exact Kd.R_mono (Kd.R_far3 (g := gb132) (Kd.R_far3 (g := gb134) (Kd.R_types (Kd.R_types HO148.out BK134.out (by decide)) BK132.out (by decide)) (fun _ hk => hk.1.2)) (fun _ hk => hk.2)) (fun _ hk => hk.1.1), by (with_reducible repeat (first | apply Kd.R_alloc | apply Kd.R_drewN | apply Kd.R_drew)); exact Kd.R_mono (Kd.R_far3 (g := gb132) (Kd.R_far3 (g := gb134) (Kd.R_types (Kd.R_types HO151.out BK134.out (by decide)) BK132.out (by decide)) (fun _ hk => hk.1.2)) (fun _ hk => hk.2)) (fun _ hk => hk.1.1), by (with_reducible repeat (first | apply Kd.R_alloc | apply Kd.R_drewN | apply Kd.R_drew)); exact Kd.R_mono (Kd.R_far3 (g := gb132) (Kd.R_far3 (g := gb134) (Kd.R_types (Kd.R_types HO144.out BK134.out (by decide)) BK132.out (by decide)) (fun _ hk => hk.1.2)) (fun _ hk => hk.2)) (fun _ hk => trivial), by repeat (first | (with_reducible first | exact HB.out | apply below_alloc | apply pw_below_drewN | apply below_drew1 | refine below_set ?_ GE132.out | refine below_set ?_ GE134.out) | exact HB.out)⟩}
 {
 replace c10 := Bool.eq_false_iff.mpr c10
 subst c10
 have H1 : (some (([] : List (S63)), ([] : List (S63)), ([] : List (S73)), false)) = some (r1, r2, r3, r4) := by rw [if_neg (show ¬ (false = true) by decide)] at H; exact H
 clear H
 have H := H1
 clear H1
 simp only [Option.some.injEq, Prod.mk.injEq] at H
 obtain ⟨rfl, rfl, rfl, rfl⟩ := H
 go_enter Try.func18, Try.ntmps18
 try go_wp2_with (first | ((with_reducible refine gate_dst (N := 2) rfl ?_); (try (refine gate_guard (by rfl) ?_; dsimp only)); refine box_event ?hg (N := 2) ?hd (cs := #[.slice A0_0 l0_0.length c0_0, .slice A0_1 l0_1.length c0_1, .slice A0_2 l0_2.length c0_2]) (t := 27) ?hr ?_; (case hd => rfl); (case hg => rfl); (case hr => first | (go_simp; done) | (go_simp; rfl)); intro gb130 hg w57 hbox hb; have n0_ := Aside0.mk (below_step (y1_ HB.out) hb); have n1_ := Aside0.mk (hbox); have n2_ := Aside0.mk ((by rw [hg]; exact (below_size (y1_ HB.out)) : w.heap.size ≤ gb130)); have n3_ := Aside0.mk ((by rw [hg]; exact (below_size (y1_ HB.out)) : w.heap.size ≤ gb130)); clear HB; have HB := n0_; have BK130 := n1_; have GW130 := n2_; have GE130 := n3_; clear n0_ n1_ n2_ n3_; clear hb hbox hg) | ((with_reducible refine gate_dst (N := 3) rfl ?_); (try (refine gate_guard (by rfl) ?_; dsimp only)); refine box_event ?hg (N := 3) ?hd (cs := #[.int .i64 a1]) (t := 2) ?hr ?_; (case hd => rfl); (case hg => rfl); (case hr => first | (go_simp; done) | (go_simp; rfl)); intro gb131 hg w58 hbox hb; have n0_ := Aside0.mk (blk_below (g := gb130) (o := .cells #[.slice A0_0 l0_0.length c0_0, .slice A0_1 l0_1.length c0_1, .slice A0_2 l0_2.length c0_2] 27 (0, 0)) (b1_ BK130.out) hb); have n1_ := Aside0.mk (below_step (y1_ HB.out) hb); have n2_ := Aside0.mk (hbox); have n3_ := Aside0.mk ((by rw [hg]; exact (below_size (y1_ HB.out)) : w.heap.size ≤ gb131)); have n4_ := Aside0.mk ((by rw [hg]; exact (below_size (y1_ HB.out)) : w.heap.size ≤ gb131)); have n5_ := Aside0.mk ((by rw [hg]; exact Nat.ne_of_lt (blk_lt (g := gb130) (o := .cells #[.slice A0_0 l0_0.length c0_0, .slice A0_1 l0_1.length c0_1, .slice A0_2 l0_2.length c0_2] 27 (0, 0)) (b1_ BK130.out)) : gb130 ≠ gb131)); have n6_ := Aside0.mk ((by rw [hg]; exact Nat.ne_of_gt (blk_lt (g := gb130) (o := .cells #[.slice A0_0 l0_0.length c0_0, .slice A0_1 l0_1.length c0_1, .slice A0_2 l0_2.length c0_2] 27 (0, 0)) (b1_ BK130.out)) : gb131 ≠ gb130)); clear BK130; clear HB; have BK130 := n0_; have HB := n1_; have BK131 := n2_; have GW131 := n3_; have GE131 := n4_; have NB130_131 := n5_; have NB131_130 := n6_; clear n0_ n1_ n2_ n3_ n4_ n5_ n6_; clear hb hbox hg) | ((with_reducible refine gate_dst (N := 4) rfl ?_); (try (refine gate_guard (by rfl) ?_; dsimp only)); refine box_event ?hg (N := 4) ?hd (cs := #[.slice none 0 0, .slice none 0 0, .slice none 0 0]) (t := 27) ?hr ?_; (case hd => rfl); (case hg => rfl); (case hr => first | (go_simp; done) | (go_simp; rfl)); intro gb132 hg w59 hbox hb; have n0_ := Aside0.mk (blk_below (g := gb130) (o := .cells #[.slice A0_0 l0_0.length c0_0, .slice A0_1 l0_1.length c0_1, .slice A0_2 l0_2.length c0_2] 27 (0, 0)) (b1_ BK130.out) hb); have n1_ := Aside0.mk (blk_below (g := gb131) (o := .cells #[.int .i64 a1] 2 (0, 0)) (b1_ BK131.out) hb); have n2_ := Aside0.mk (below_step (y1_ HB.out) hb); have n3_ := Aside0.mk (hbox); have n4_ := Aside0.mk ((by rw [hg]; exact (below_size (y1_ HB.out)) : w.heap.size ≤ gb132)); have n5_ := Aside0.mk ((by rw [hg]; exact (below_size (y1_ HB.out)) : w.heap.size ≤ gb132)); have n6_ := Aside0.mk ((by rw [hg]; exact Nat.ne_of_lt (blk_lt (g := gb130) (o := .cells #[.slice A0_0 l0_0.length c0_0, .slice A0_1 l0_1.length c0_1, .slice A0_2 l0_2.length c0_2] 27 (0, 0)) (b1_ BK130.out)) : gb130 ≠ gb132)); have n7_ := Aside0.mk ((by rw [hg]; exact Nat.ne_of_gt (blk_lt (g := gb130) (o := .cells #[.slice A0_0 l0_0.length c0_0, .slice A0_1 l0_1.length c0_1, .slice A0_2 l0_2.length c0_2] 27 (0, 0)) (b1_ BK130.out)) : gb132 ≠ gb130)); have n8_ := Aside0.mk ((by rw [hg]; exact Nat.ne_of_lt (blk_lt (g := gb131) (o := .cells #[.int .i64 a1] 2 (0, 0)) (b1_ BK131.out)) : gb131 ≠ gb132)); have n9_ := Aside0.mk ((by rw [hg]; exact Nat.ne_of_gt (blk_lt (g := gb131) (o := .cells #[.int .i64 a1] 2 (0, 0)) (b1_ BK131.out)) : gb132 ≠ gb131)); clear BK130; clear BK131; clear HB; have BK130 := n0_; have BK131 := n1_; have HB := n2_; have BK132 := n3_; have GW132 := n4_; have GE132 := n5_; have NB130_132 := n6_; have NB132_130 := n7_; have NB131_132 := n8_; have NB132_131 := n9_; clear n0_ n1_ n2_ n3_ n4_ n5_ n6_ n7_ n8_ n9_; clear hb hbox hg; have hnb60 := NB130_131.out; have hnc60 := NB131_130.out; have hnb61 := NB130_132.out; have hnc61 := NB132_130.out; have hcz62_0 : w59.cell? ⟨gb130, 0, none⟩ = some (.slice A0_0 l0_0.length c0_0) := (blk_cell BK130.out 0).trans rfl; have hcz62_1 : w59.cell? ⟨gb130, 1, none⟩ = some (.slice A0_1 l0_1.length c0_1) := (blk_cell BK130.out 1).trans rfl; have hcz62_2 : w59.cell? ⟨gb130, 2, none⟩ = some (.slice A0_2 l0_2.length c0_2) := (blk_cell BK130.out 2).trans rfl; have hfz62_0 := blk_frozen BK130.out 0; have hfz62_1 := blk_frozen BK130.out 1; have hfz62_2 := blk_frozen BK130.out 2))
 go_at_call 42
 go_in
 try go_wp2_with (first | ((with_reducible refine gate_dst (N := 2) rfl ?_); (try (refine gate_guard (by rfl) ?_; dsimp only)); refine box_event ?hg (N := 2) ?hd (cs := #[.slice A0_0 l0_0.length c0_0, .slice A0_1 l0_1.length c0_1, .slice A0_2 l0_2.length c0_2]) (t := 27) ?hr ?_; (case hd => rfl); (case hg => rfl); (case hr => first | (go_simp; done) | (go_simp; rfl)); intro gb133 hg w63 hbox hb; have n0_ := Aside0.mk (blk_below (g := gb130) (o := .cells #[.slice A0_0 l0_0.length c0_0, .slice A0_1 l0_1.length c0_1, .slice A0_2 l0_2.length c0_2] 27 (0, 0)) (b1_ BK130.out) hb); have n1_ := Aside0.mk (blk_below (g := gb131) (o := .cells #[.int .i64 a1] 2 (0, 0)) (b1_ BK131.out) hb); have n2_ := Aside0.mk (blk_below (g := gb132) (o := .cells #[.slice none 0 0, .slice none 0 0, .slice none 0 0] 27 (0, 0)) (b1_ BK132.out) hb); have n3_ := Aside0.mk (below_step (y1_ HB.out) hb); have n4_ := Aside0.mk (hbox); have n5_ := Aside0.mk ((by rw [hg]; exact (below_size (y1_ HB.out)) : w.heap.size ≤ gb133)); have n6_ := Aside0.mk ((by rw [hg]; exact (below_size (y1_ HB.out)) : w.heap.size ≤ gb133)); have n7_ := Aside0.mk ((by rw [hg]; exact Nat.ne_of_lt (blk_lt (g := gb130) (o := .cells #[.slice A0_0 l0_0.length c0_0, .slice A0_1 l0_1.length c0_1, .slice A0_2 l0_2.length c0_2] 27 (0, 0)) (b1_ BK130.out)) : gb130 ≠ gb133)); have n8_ := Aside0.mk ((by rw [hg]; exact Nat.ne_of_gt (blk_lt (g := gb130) (o := .cells #[.slice A0_0 l0_0.length c0_0, .slice A0_1 l0_1.length c0_1, .slice A0_2 l0_2.length c0_2] 27 (0, 0)) (b1_ BK130.out)) : gb133 ≠ gb130)); have n9_ := Aside0.mk ((by rw [hg]; exact Nat.ne_of_lt (blk_lt (g := gb131) (o := .cells #[.int .i64 a1] 2 (0, 0)) (b1_ BK131.out)) : gb131 ≠ gb133)); have n10_ := Aside0.mk ((by rw [hg]; exact Nat.ne_of_gt (blk_lt (g := gb131) (o := .cells #[.int .i64 a1] 2 (0, 0)) (b1_ BK131.out)) : gb133 ≠ gb131)); have n11_ := Aside0.mk ((by rw [hg]; exact Nat.ne_of_lt (blk_lt (g := gb132) (o := .cells #[.slice none 0 0, .slice none 0 0, .slice none 0 0] 27 (0, 0)) (b1_ BK132.out)) : gb132 ≠ gb133)); have n12_ := Aside0.mk ((by rw [hg]; exact Nat.ne_of_gt (blk_lt (g := gb132) (o := .cells #[.slice none 0 0, .slice none 0 0, .slice none 0 0] 27 (0, 0)) (b1_ BK132.out)) : gb133 ≠ gb132)); clear BK130; clear BK131; clear BK132; clear HB; have BK130 := n0_; have BK131 := n1_; have BK132 := n2_; have HB := n3_; have BK133 := n4_; have GW133 := n5_; have GE133 := n6_; have NB130_133 := n7_; have NB133_130 := n8_; have NB131_133 := n9_; have NB133_131 := n10_; have NB132_133 := n11_; have NB133_132 := n12_; clear n0_ n1_ n2_ n3_ n4_ n5_ n6_ n7_ n8_ n9_ n10_ n11_ n12_; clear hb hbox hg) | ((with_reducible refine gate_dst (N := 4) rfl ?_); (try (refine gate_guard (by rfl) ?_; dsimp only)); refine box_event ?hg (N := 4) ?hd (cs := #[.slice none 0 0, .slice none 0 0, .slice none 0 0]) (t := 27) ?hr ?_; (case hd => rfl); (case hg => rfl); (case hr => first | (go_simp; done) | (go_simp; rfl)); intro gb134 hg w64 hbox hb; have n0_ := Aside0.mk (blk_below (g := gb130) (o := .cells #[.slice A0_0 l0_0.length c0_0, .slice A0_1 l0_1.length c0_1, .slice A0_2 l0_2.length c0_2] 27 (0, 0)) (b1_ BK130.out) hb); have n1_ := Aside0.mk (blk_below (g := gb131) (o := .cells #[.int .i64 a1] 2 (0, 0)) (b1_ BK131.out) hb); have n2_ := Aside0.mk (blk_below (g := gb132) (o := .cells #[.slice none 0 0, .slice none 0 0, .slice none 0 0] 27 (0, 0)) (b1_ BK132.out) hb); have n3_ := Aside0.mk (blk_below (g := gb133) (o := .cells #[.slice A0_0 l0_0.length c0_0, .slice A0_1 l0_1.length c0_1, .slice A0_2 l0_2.length c0_2] 27 (0, 0)) (b1_ BK133.out) hb); have n4_ := Aside0.mk (below_step (y1_ HB.out) hb); have n5_ := Aside0.mk (hbox); have n6_ := Aside0.mk ((by rw [hg]; exact (below_size (y1_ HB.out)) : w.heap.size ≤ gb134)); have n7_ := Aside0.mk ((by rw [hg]; exact (below_size (y1_ HB.out)) : w.heap.size ≤ gb134)); have n8_ := Aside0.mk ((by rw [hg]; exact Nat.ne_of_lt (blk_lt (g := gb130) (o := .cells #[.slice A0_0 l0_0.length c0_0, .slice A0_1 l0_1.length c0_1, .slice A0_2 l0_2.length c0_2] 27 (0, 0)) (b1_ BK130.out)) : gb130 ≠ gb134)); have n9_ := Aside0.mk ((by rw [hg]; exact Nat.ne_of_gt (blk_lt (g := gb130) (o := .cells #[.slice A0_0 l0_0.length c0_0, .slice A0_1 l0_1.length c0_1, .slice A0_2 l0_2.length c0_2] 27 (0, 0)) (b1_ BK130.out)) : gb134 ≠ gb130)); have n10_ := Aside0.mk ((by rw [hg]; exact Nat.ne_of_lt (blk_lt (g := gb131) (o := .cells #[.int .i64 a1] 2 (0, 0)) (b1_ BK131.out)) : gb131 ≠ gb134)); have n11_ := Aside0.mk ((by rw [hg]; exact Nat.ne_of_gt (blk_lt (g := gb131) (o := .cells #[.int .i64 a1] 2 (0, 0)) (b1_ BK131.out)) : gb134 ≠ gb131)); have n12_ := Aside0.mk ((by rw [hg]; exact Nat.ne_of_lt (blk_lt (g := gb132) (o := .cells #[.slice none 0 0, .slice none 0 0, .slice none 0 0] 27 (0, 0)) (b1_ BK132.out)) : gb132 ≠ gb134)); have n13_ := Aside0.mk ((by rw [hg]; exact Nat.ne_of_gt (blk_lt (g := gb132) (o := .cells #[.slice none 0 0, .slice none 0 0, .slice none 0 0] 27 (0, 0)) (b1_ BK132.out)) : gb134 ≠ gb132)); have n14_ := Aside0.mk ((by rw [hg]; exact Nat.ne_of_lt (blk_lt (g := gb133) (o := .cells #[.slice A0_0 l0_0.length c0_0, .slice A0_1 l0_1.length c0_1, .slice A0_2 l0_2.length c0_2] 27 (0, 0)) (b1_ BK133.out)) : gb133 ≠ gb134)); have n15_ := Aside0.mk ((by rw [hg]; exact Nat.ne_of_gt (blk_lt (g := gb133) (o := .cells #[.slice A0_0 l0_0.length c0_0, .slice A0_1 l0_1.length c0_1, .slice A0_2 l0_2.length c0_2] 27 (0, 0)) (b1_ BK133.out)) : gb134 ≠ gb133)); clear BK130; clear BK131; clear BK132; clear BK133; clear HB; have BK130 := n0_; have BK131 := n1_; have BK132 := n2_; have BK133 := n3_; have HB := n4_; have BK134 := n5_; have GW134 := n6_; have GE134 := n7_; have NB130_134 := n8_; have NB134_130 := n9_; have NB131_134 := n10_; have NB134_131 := n11_; have NB132_134 := n12_; have NB134_132 := n13_; have NB133_134 := n14_; have NB134_133 := n15_; clear n0_ n1_ n2_ n3_ n4_ n5_ n6_ n7_ n8_ n9_ n10_ n11_ n12_ n13_ n14_ n15_; clear hb hbox hg; have hnb65 := NB133_130.out; have hnc65 := NB130_133.out; have hnb66 := NB133_131.out; have hnc66 := NB131_133.out; have hnb67 := NB133_132.out; have hnc67 := NB132_133.out; have hnb68 := NB133_134.out; have hnc68 := NB134_133.out; have hcz69_0 : w64.cell? ⟨gb133, 0, none⟩ = some (.slice A0_0 l0_0.length c0_0) := (blk_cell BK133.out 0).trans rfl; have hcz69_1 : w64.cell? ⟨gb133, 1, none⟩ = some (.slice A0_1 l0_1.length c0_1) := (blk_cell BK133.out 1).trans rfl; have hcz69_2 : w64.cell? ⟨gb133, 2, none⟩ = some (.slice A0_2 l0_2.length c0_2) := (blk_cell BK133.out 2).trans rfl; have hfz69_0 := blk_frozen BK133.out 0; have hfz69_1 := blk_frozen BK133.out 1; have hfz69_2 := blk_frozen BK133.out 2) | ((with_reducible refine gate_callee (f := 19) rfl ?_); refine goesL_ (some 8) rfl rfl Try.func19 s2_ rfl #[.agg #[.slice A0_0 l0_0.length c0_0, .slice A0_1 l0_1.length c0_1, .slice A0_2 l0_2.length c0_2]] rfl s3_ ?_; (with_reducible refine (impl_ValidPresence.calls k _ _ l0_0 _ _ l0_1 _ _ l0_2 true _ ?side1 ?side2 ?side3 ?side4 ?side5 ?side6 A3.out).mono ?_); (case side1 => exact y2_ (Kd.C_below HR0_0.out HB.out)); (case side2 => exact HC0_0.out); (case side3 => exact y2_ (Kd.C_below HR0_1.out HB.out)); (case side4 => exact HC0_1.out); (case side5 => exact y2_ (Kd.C_below HR0_2.out HB.out)); (case side6 => exact HC0_2.out); rintro e w70 ⟨rfl, hb⟩; refine ⟨_, rfl, ?_⟩; have n0_ := Aside0.mk (blk_below (g := gb130) (o := .cells #[.slice A0_0 l0_0.length c0_0, .slice A0_1 l0_1.length c0_1, .slice A0_2 l0_2.length c0_2] 27 (0, 0)) (b1_ BK130.out) hb); have n1_ := Aside0.mk (blk_below (g := gb131) (o := .cells #[.int .i64 a1] 2 (0, 0)) (b1_ BK131.out) hb); have n2_ := Aside0.mk (blk_below (g := gb132) (o := .cells #[.slice none 0 0, .slice none 0 0, .slice none 0 0] 27 (0, 0)) (b1_ BK132.out) hb); have n3_ := Aside0.mk (blk_below (g := gb133) (o := .cells #[.slice A0_0 l0_0.length c0_0, .slice A0_1 l0_1.length c0_1, .slice A0_2 l0_2.length c0_2] 27 (0, 0)) (b1_ BK133.out) hb); have n4_ := Aside0.mk (blk_below (g := gb134) (o := .cells #[.slice none 0 0, .slice none 0 0, .slice none 0 0] 27 (0, 0)) (b1_ BK134.out) hb); have n5_ := Aside0.mk (below_step (y1_ HB.out) hb); clear BK130; clear BK131; clear BK132; clear BK133; clear BK134; clear HB; have BK130 := n0_; have BK131 := n1_; have BK132 := n2_; have BK133 := n3_; have BK134 := n4_; have HB := n5_; clear n0_ n1_ n2_ n3_ n4_ n5_; (try clear hb); (try clear hb2); (try clear hk); (try clear hi); have hcz71_0 : w70.cell? ⟨gb133, 0, none⟩ = some (.slice A0_0 l0_0.length c0_0) := (blk_cell BK133.out 0).trans rfl; have hcz71_1 : w70.cell? ⟨gb133, 1, none⟩ = some (.slice A0_1 l0_1.length c0_1) := (blk_cell BK133.out 1).trans rfl; have hcz71_2 : w70.cell? ⟨gb133, 2, none⟩ = some (.slice A0_2 l0_2.length c0_2) := (blk_cell BK133.out 2).trans rfl; have hfz71_0 := blk_frozen BK133.out 0; have hfz71_1 := blk_frozen BK133.out 1; have hfz71_2 := blk_frozen BK133.out 2) | ((with_reducible refine gate_callee (f := 90) rfl ?_); refine goesL_ (some 12) rfl rfl Try.func90 s2_ rfl #[.agg #[.slice A0_0 l0_0.length c0_0, .slice A0_1 l0_1.length c0_1, .slice A0_2 l0_2.length c0_2]] rfl s3_ ?_; (with_reducible refine (impl_clonePresence.calls _ _ l0_0 _ _ l0_1 _ _ l0_2 t136 t139 t142 _ ?side1 ?side2 ?side3 ?side4 ?side5 ?side6 A5.out).mono ?_); (case side1 => exact y2_ (Kd.C_below HR0_0.out HB.out)); (case side2 => exact HC0_0.out); (case side3 => exact y2_ (Kd.C_below HR0_1.out HB.out)); (case side4 => exact HC0_1.out); (case side5 => exact y2_ (Kd.C_below HR0_2.out HB.out)); (case side6 => exact HC0_2.out); rintro e w72 ⟨v137, v140, v143, rfl, ho0, ho1, ho2, hb⟩; refine ⟨_, rfl, ?_⟩; have n0_ := Aside0.mk (Kd.R_lower ho0 (below_size (y1_ HB.out))); have n1_ := Aside0.mk (Kd.R_lower ho1 (below_size (y1_ HB.out))); have n2_ := Aside0.mk (Kd.R_lower ho2 (below_size (y1_ HB.out))); have n3_ := Aside0.mk (blk_below (g := gb130) (o := .cells #[.slice A0_0 l0_0.length c0_0, .slice A0_1 l0_1.length c0_1, .slice A0_2 l0_2.length c0_2] 27 (0, 0)) (b1_ BK130.out) hb); have n4_ := Aside0.mk (blk_below (g := gb131) (o := .cells #[.int .i64 a1] 2 (0, 0)) (b1_ BK131.out) hb); have n5_ := Aside0.mk (blk_below (g := gb132) (o := .cells #[.slice none 0 0, .slice none 0 0, .slice none 0 0] 27 (0, 0)) (b1_ BK132.out) hb); have n6_ := Aside0.mk (blk_below (g := gb133) (o := .cells #[.slice A0_0 l0_0.length c0_0, .slice A0_1 l0_1.length c0_1, .slice A0_2 l0_2.length c0_2] 27 (0, 0)) (b1_ BK133.out) hb); have n7_ := Aside0.mk (blk_below (g := gb134) (o := .cells #[.slice none 0 0, .slice none 0 0, .slice none 0 0] 27 (0, 0)) (b1_ BK134.out) hb); have n8_ := Aside0.mk (below_step (y1_ HB.out) hb); clear BK130; clear BK131; clear BK132; clear BK133; clear BK134; clear HB; have HO138 := n0_; have HO141 := n1_; have HO144 := n2_; have BK130 := n3_; have BK131 := n4_; have BK132 := n5_; have BK133 := n6_; have BK134 := n7_; have HB := n8_; clear n0_ n1_ n2_ n3_ n4_ n5_ n6_ n7_ n8_; (try clear hb); (try clear hb2); (try clear hk); (try clear hi); (try clear ho0); (try clear ho1); (try clear ho2)) | ((with_reducible refine gate_dst (N := 6) rfl ?_); (try (refine gate_guard (by rfl) ?_; dsimp only)); refine box_event ?hg (N := 6) ?hd (cs := #[.slice none 0 0, .slice none 0 0, .slice none 0 0]) (t := 27) ?hr ?_; (case hd => rfl); (case hg => rfl); (case hr => first | (go_simp; done) | (go_simp; rfl)); intro gb145 hg w73 hbox hb; have n0_ := Aside0.mk (Kd.R_below (b2_ HO138.out) hb); have n1_ := Aside0.mk (Kd.R_below (b2_ HO141.out) hb); have n2_ := Aside0.mk (Kd.R_below (b2_ HO144.out) hb); have n3_ := Aside0.mk (blk_below (g := gb130) (o := .cells #[.slice A0_0 l0_0.length c0_0, .slice A0_1 l0_1.length c0_1, .slice A0_2 l0_2.length c0_2] 27 (0, 0)) (b1_ BK130.out) hb); have n4_ := Aside0.mk (blk_below (g := gb131) (o := .cells #[.int .i64 a1] 2 (0, 0)) (b1_ BK131.out) hb); have n5_ := Aside0.mk (blk_below (g := gb132) (o := .cells #[.slice none 0 0, .slice none 0 0, .slice none 0 0] 27 (0, 0)) (b1_ BK132.out) hb); have n6_ := Aside0.mk (blk_below (g := gb133) (o := .cells #[.slice A0_0 l0_0.length c0_0, .slice A0_1 l0_1.length c0_1, .slice A0_2 l0_2.length c0_2] 27 (0, 0)) (b1_ BK133.out) hb); have n7_ := Aside0.mk (blk_below (g := gb134) (o := .cells #[.slice none 0 0, .slice none 0 0, .slice none 0 0] 27 (0, 0)) (b1_ BK134.out) hb); have n8_ := Aside0.mk (below_step (y1_ HB.out) hb); have n9_ := Aside0.mk (hbox); have n10_ := Aside0.mk ((by rw [hg]; exact (below_size (y1_ HB.out)) : w.heap.size ≤ gb145)); have n11_ := Aside0.mk ((by rw [hg]; exact (below_size (y1_ HB.out)) : w.heap.size ≤ gb145)); have n12_ := Aside0.mk ((by rw [hg]; exact Nat.ne_of_lt (blk_lt (g := gb130) (o := .cells #[.slice A0_0 l0_0.length c0_0, .slice A0_1 l0_1.length c0_1, .slice A0_2 l0_2.length c0_2] 27 (0, 0)) (b1_ BK130.out)) : gb130 ≠ gb145)); have n13_ := Aside0.mk ((by rw [hg]; exact Nat.ne_of_gt (blk_lt (g := gb130) (o := .cells #[.slice A0_0 l0_0.length c0_0, .slice A0_1 l0_1.length c0_1, .slice A0_2 l0_2.length c0_2] 27 (0, 0)) (b1_ BK130.out)) : gb145 ≠ gb130)); have n14_ := Aside0.mk ((by rw [hg]; exact Nat.ne_of_lt (blk_lt (g := gb131) (o := .cells #[.int .i64 a1] 2 (0, 0)) (b1_ BK131.out)) : gb131 ≠ gb145)); have n15_ := Aside0.mk ((by rw [hg]; exact Nat.ne_of_gt (blk_lt (g := gb131) (o := .cells #[.int .i64 a1] 2 (0, 0)) (b1_ BK131.out)) : gb145 ≠ gb131)); have n16_ := Aside0.mk ((by rw [hg]; exact Nat.ne_of_lt (blk_lt (g := gb132) (o := .cells #[.slice none 0 0, .slice none 0 0, .slice none 0 0] 27 (0, 0)) (b1_ BK132.out)) : gb132 ≠ gb145)); have n17_ := Aside0.mk ((by rw [hg]; exact Nat.ne_of_gt (blk_lt (g := gb132) (o := .cells #[.slice none 0 0, .slice none 0 0, .slice none 0 0] 27 (0, 0)) (b1_ BK132.out)) : gb145 ≠ gb132)); have n18_ := Aside0.mk ((by rw [hg]; exact Nat.ne_of_lt (blk_lt (g := gb133) (o := .cells #[.slice A0_0 l0_0.length c0_0, .slice A0_1 l0_1.length c0_1, .slice A0_2 l0_2.length c0_2] 27 (0, 0)) (b1_ BK133.out)) : gb133 ≠ gb145)); have n19_ := Aside0.mk ((by rw [hg]; exact Nat.ne_of_gt (blk_lt (g := gb133) (o := .cells #[.slice A0_0 l0_0.length c0_0, .slice A0_1 l0_1.length c0_1, .slice A0_2 l0_2.length c0_2] 27 (0, 0)) (b1_ BK133.out)) : gb145 ≠ gb133)); have n20_ := Aside0.mk ((by rw [hg]; exact Nat.ne_of_lt (blk_lt (g := gb134) (o := .cells #[.slice none 0 0, .slice none 0 0, .slice none 0 0] 27 (0, 0)) (b1_ BK134.out)) : gb134 ≠ gb145)); have n21_ := Aside0.mk ((by rw [hg]; exact Nat.ne_of_gt (blk_lt (g := gb134) (o := .cells #[.slice none 0 0, .slice none 0 0, .slice none 0 0] 27 (0, 0)) (b1_ BK134.out)) : gb145 ≠ gb134)); clear HO138; clear HO141; clear HO144; clear BK130; clear BK131; clear BK132; clear BK133; clear BK134; clear HB; have HO138 := n0_; have HO141 := n1_; have HO144 := n2_; have BK130 := n3_; have BK131 := n4_; have BK132 := n5_; have BK133 := n6_; have BK134 := n7_; have HB := n8_; have BK145 := n9_; have GW145 := n10_; have GE145 := n11_; have NB130_145 := n12_; have NB145_130 := n13_; have NB131_145 := n14_; have NB145_131 := n15_; have NB132_145 := n16_; have NB145_132 := n17_; have NB133_145 := n18_; have NB145_133 := n19_; have NB134_145 := n20_; have NB145_134 := n21_; clear n0_ n1_ n2_ n3_ n4_ n5_ n6_ n7_ n8_ n9_ n10_ n11_ n12_ n13_ n14_ n15_ n16_ n17_ n18_ n19_ n20_ n21_; clear hb hbox hg; obtain ⟨Ao74, co74, eo74⟩ := Kd.R_slice HO138.out; subst eo74; have hnb75 := NB145_130.out; have hnc75 := NB130_145.out; have hnb76 := NB145_131.out; have hnc76 := NB131_145.out; have hnb77 := NB145_132.out; have hnc77 := NB132_145.out; have hnb78 := NB145_133.out; have hnc78 := NB133_145.out; have hnb79 := NB145_134.out; have hnc79 := NB134_145.out; have hcz80_0 : w73.cell? ⟨gb145, 0, none⟩ = some (.slice none 0 0) := (blk_cell BK145.out 0).trans rfl; have hcz80_1 : w73.cell? ⟨gb145, 1, none⟩ = some (.slice none 0 0) := (blk_cell BK145.out 1).trans rfl; have hcz80_2 : w73.cell? ⟨gb145, 2, none⟩ = some (.slice none 0 0) := (blk_cell BK145.out 2).trans rfl; have hfz80_0 := blk_frozen BK145.out 0; have hfz80_1 := blk_frozen BK145.out 1; have hfz80_2 := blk_frozen BK145.out 2; obtain ⟨Ao81, co81, eo81⟩ := Kd.R_slice HO141.out; subst eo81; obtain ⟨Ao82, co82, eo82⟩ := Kd.R_slice HO144.out; subst eo82))
 go_at_call 51
 go_in
 try go_wp2_with (fail)
 have n0_ : Aside0 (Kd.R k63 63 (((w73.setCell ⟨gb145, 0, none⟩ (.slice Ao74 t136.length co74)).setCell ⟨gb145, 1, none⟩ (.slice Ao81 t139.length co81)).setCell ⟨gb145, 2, none⟩ (.slice Ao82 t142.length co82)) w.heap.size (fun k_ => some k_ ≠ (.slice Ao81 t139.length co81 : Value).ownBlock) (.slice Ao74 t136.length co74) t136) := ⟨by (with_reducible repeat (first | apply Kd.R_alloc | apply Kd.R_drewN | apply Kd.R_drew)); exact Kd.R_mono (Kd.R_far3 (g := gb145) (Kd.R_types HO138.out BK145.out (by decide)) (fun _ hk => hk.2)) (fun _ hk => hk.1)⟩
 have n1_ : Aside0 (Kd.R k63 63 (((w73.setCell ⟨gb145, 0, none⟩ (.slice Ao74 t136.length co74)).setCell ⟨gb145, 1, none⟩ (.slice Ao81 t139.length co81)).setCell ⟨gb145, 2, none⟩ (.slice Ao82 t142.length co82)) w.heap.size (fun k_ => some k_ ≠ (.slice Ao74 t136.length co74 : Value).ownBlock) (.slice Ao81 t139.length co81) t139) := ⟨by (with_reducible repeat (first | apply Kd.R_alloc | apply Kd.R_drewN | apply Kd.R_drew)); exact Kd.R_mono (Kd.R_far3 (g := gb145) (Kd.R_types HO141.out BK145.out (by decide)) (fun _ hk => hk.2)) (fun _ hk => hk.1)⟩
 have n2_ : Aside0 (Kd.R k73 73 (((w73.setCell ⟨gb145, 0, none⟩ (.slice Ao74 t136.length co74)).setCell ⟨gb145, 1, none⟩ (.slice Ao81 t139.length co81)).setCell ⟨gb145, 2, none⟩ (.slice Ao82 t142.length co82)) w.heap.size (fun _ => True) (.slice Ao82 t142.length co82) t142) := ⟨by (with_reducible repeat (first | apply Kd.R_alloc | apply Kd.R_drewN | apply Kd.R_drew)); exact Kd.R_mono (Kd.R_far3 (g := gb145) (Kd.R_types HO144.out BK145.out (by decide)) (fun _ hk => hk.2)) (fun _ hk => trivial)⟩
 have n3_ : Aside0 ((((w73.setCell ⟨gb145, 0, none⟩ (.slice Ao74 t136.length co74)).setCell ⟨gb145, 1, none⟩ (.slice Ao81 t139.length co81)).setCell ⟨gb145, 2, none⟩ (.slice Ao82 t142.length co82)).heap[gb130]? = some (.cells #[.slice A0_0 l0_0.length c0_0, .slice A0_1 l0_1.length c0_1, .slice A0_2 l0_2.length c0_2] 27 (0, 0))) := ⟨by (with_reducible repeat (first | refine blk_drewN ?_ _ | refine blk_drew ?_ | refine blk_alloc ?_ _)); refine blk_far3 ?_ NB130_145.out; (with_reducible repeat (first | refine blk_drewN ?_ _ | refine blk_drew ?_ | refine blk_alloc ?_ _)); exact BK130.out⟩
 have n4_ : Aside0 ((((w73.setCell ⟨gb145, 0, none⟩ (.slice Ao74 t136.length co74)).setCell ⟨gb145, 1, none⟩ (.slice Ao81 t139.length co81)).setCell ⟨gb145, 2, none⟩ (.slice Ao82 t142.length co82)).heap[gb131]? = some (.cells #[.int .i64 a1] 2 (0, 0))) := ⟨by (with_reducible repeat (first | refine blk_drewN ?_ _ | refine blk_drew ?_ | refine blk_alloc ?_ _)); refine blk_far3 ?_ NB131_145.out; (with_reducible repeat (first | refine blk_drewN ?_ _ | refine blk_drew ?_ | refine blk_alloc ?_ _)); exact BK131.out⟩
 have n5_ : Aside0 ((((w73.setCell ⟨gb145, 0, none⟩ (.slice Ao74 t136.length co74)).setCell ⟨gb145, 1, none⟩ (.slice Ao81 t139.length co81)).setCell ⟨gb145, 2, none⟩ (.slice Ao82 t142.length co82)).heap[gb132]? = some (.cells #[.slice none 0 0, .slice none 0 0, .slice none 0 0] 27 (0, 0))) := ⟨by (with_reducible repeat (first | refine blk_drewN ?_ _ | refine blk_drew ?_ | refine blk_alloc ?_ _)); refine blk_far3 ?_ NB132_145.out; (with_reducible repeat (first | refine blk_drewN ?_ _ | refine blk_drew ?_ | refine blk_alloc ?_ _)); exact BK132.out⟩
 have n6_ : Aside0 ((((w73.setCell ⟨gb145, 0, none⟩ (.slice Ao74 t136.length co74)).setCell ⟨gb145, 1, none⟩ (.slice Ao81 t139.length co81)).setCell ⟨gb145, 2, none⟩ (.slice Ao82 t142.length co82)).heap[gb133]? = some (.cells #[.slice A0_0 l0_0.length c0_0, .slice A0_1 l0_1.length c0_1, .slice A0_2 l0_2.length c0_2] 27 (0, 0))) := ⟨by (with_reducible repeat (first | refine blk_drewN ?_ _ | refine blk_drew ?_ | refine blk_alloc ?_ _)); refine blk_far3 ?_ NB133_145.out; (with_reducible repeat (first | refine blk_drewN ?_ _ | refine blk_drew ?_ | refine blk_alloc ?_ _)); exact BK133.out⟩
 have n7_ : Aside0 ((((w73.setCell ⟨gb145, 0, none⟩ (.slice Ao74 t136.length co74)).setCell ⟨gb145, 1, none⟩ (.slice Ao81 t139.length co81)).setCell ⟨gb145, 2, none⟩ (.slice Ao82 t142.length co82)).heap[gb134]? = some (.cells #[.slice none 0 0, .slice none 0 0, .slice none 0 0] 27 (0, 0))) := ⟨by (with_reducible repeat (first | refine blk_drewN ?_ _ | refine blk_drew ?_ | refine blk_alloc ?_ _)); refine blk_far3 ?_ NB134_145.out; (with_reducible repeat (first | refine blk_drewN ?_ _ | refine blk_drew ?_ | refine blk_alloc ?_ _)); exact BK134.out⟩
 have n8_ : Aside0 ((((w73.setCell ⟨gb145, 0, none⟩ (.slice Ao74 t136.length co74)).setCell ⟨gb145, 1, none⟩ (.slice Ao81 t139.length co81)).setCell ⟨gb145, 2, none⟩ (.slice Ao82 t142.length co82)).heap[gb145]? = some (.cells #[.slice Ao74 t136.length co74, .slice Ao81 t139.length co81, .slice Ao82 t142.length co82] 27 (0, 0))) := ⟨by (with_reducible repeat (first | refine blk_drewN ?_ _ | refine blk_drew ?_ | refine blk_alloc ?_ _)); refine blk_put3 (cs := #[.slice none 0 0, .slice none 0 0, .slice none 0 0]) ?_ rfl; (with_reducible repeat (first | refine blk_drewN ?_ _ | refine blk_drew ?_ | refine blk_alloc ?_ _)); exact BK145.out⟩
 have n9_ : Aside0 (Below w.heap.size w (((w73.setCell ⟨gb145, 0, none⟩ (.slice Ao74 t136.length co74)).setCell ⟨gb145, 1, none⟩ (.slice Ao81 t139.length co81)).setCell ⟨gb145, 2, none⟩ (.slice Ao82 t142.length co82))) := ⟨by repeat (first | (with_reducible first | exact HB.out | apply below_alloc | apply pw_below_drewN | apply below_drew1 | refine below_set ?_ GE145.out) | exact HB.out)⟩
 (try clear HO138)
 (try clear HO141)
 (try clear HO144)
 (try clear BK130)
 (try clear BK131)
 (try clear BK132)
 (try clear BK133)
 (try clear BK134)
 (try clear BK145)
 (try clear HB)
 generalize (((w73.setCell ⟨gb145, 0, none⟩ (.slice Ao74 t136.length co74)).setCell ⟨gb145, 1, none⟩ (.slice Ao81 t139.length co81)).setCell ⟨gb145, 2, none⟩ (.slice Ao82 t142.length co82)) = w83 at n0_ n1_ n2_ n3_ n4_ n5_ n6_ n7_ n8_ n9_ ⊢
 have HO138 := n0_
 have HO141 := n1_
 have HO144 := n2_
 have BK130 := n3_
 have BK131 := n4_
 have BK132 := n5_
 have BK133 := n6_
 have BK134 := n7_
 have BK145 := n8_
 have HB := n9_
 clear n0_ n1_ n2_ n3_ n4_ n5_ n6_ n7_ n8_ n9_
 have n0_ := Aside0.mk (Kd.R_drew HO138.out)
 have n1_ := Aside0.mk (Kd.R_drew HO141.out)
 have n2_ := Aside0.mk (Kd.R_drew HO144.out)
 have n3_ := Aside0.mk (blk_drew BK130.out)
 have n4_ := Aside0.mk (blk_drew BK131.out)
 have n5_ := Aside0.mk (blk_drew BK132.out)
 have n6_ := Aside0.mk (blk_drew BK133.out)
 have n7_ := Aside0.mk (blk_drew BK134.out)
 have n8_ := Aside0.mk (blk_drew BK145.out)
 have n9_ := Aside0.mk (below_drew1 HB.out)
 clear HO138
 clear HO141
 clear HO144
 clear BK130
 clear BK131
 clear BK132
 clear BK133
 clear BK134
 clear BK145
 clear HB
 have HO138 := n0_
 have HO141 := n1_
 have HO144 := n2_
 have BK130 := n3_
 have BK131 := n4_
 have BK132 := n5_
 have BK133 := n6_
 have BK134 := n7_
 have BK145 := n8_
 have HB := n9_
 clear n0_ n1_ n2_ n3_ n4_ n5_ n6_ n7_ n8_ n9_
 refine start_ (n := 12) (S := fun w' => w'.cell? ⟨gb145, 0, none⟩ = some (.slice Ao74 t136.length co74) ∧ w'.cell? ⟨gb145, 1, none⟩ = some (.slice Ao81 t139.length co81) ∧ w'.cell? ⟨gb145, 2, none⟩ = some (.slice Ao82 t142.length co82)) (ds := []) m0_ s2_ rfl rfl ⟨(blk_cell BK145.out 0).trans rfl, (blk_cell BK145.out 1).trans rfl, (blk_cell BK145.out 2).trans rfl⟩ (fun hHeld => ?_)
 generalize w83.drew = w84 at HO138 HO141 HO144 BK130 BK131 BK132 BK133 BK134 BK145 HB hHeld ⊢
 refine pure_ (i := 0) (N := some 6) (v := ?_) (a' := ?_) m1_ rfl rfl s2_ (fun _ _ _ h => h) (Or.inl ⟨by rfl, ?_⟩) ?_ ?_
 rotate_left
 {
 intro w'
 go_simp
 with_reducible rfl}
 rotate_left
 · exact p1_
 refine pure_ (i := 1) (N := some 7) (v := ?_) (a' := ?_) m2_ rfl rfl s2_ (fun _ _ _ h => h) (Or.inl ⟨by rfl, ?_⟩) ?_ ?_
 rotate_left
 {
 intro w'
 go_simp
 with_reducible rfl}
 rotate_left
 · exact p1_
 refine pure_ (i := 2) (N := some 8) (v := ?_) (a' := ?_) m3_ rfl rfl s2_ (fun _ _ _ h => h) (Or.inl ⟨by rfl, ?_⟩) ?_ ?_
 rotate_left
 {
 intro w'
 go_simp
 with_reducible rfl}
 rotate_left
 · exact p1_
 refine pure_ (i := 5) (N := some 11) (v := ?_) (a' := ?_) m4_ rfl rfl s2_ (fun _ _ _ h => h) (Or.inl ⟨by rfl, ?_⟩) ?_ ?_
 rotate_left
 {
 intro w'
 go_simp
 with_reducible rfl}
 rotate_left
 · exact p1_
 refine pure_ (i := 6) (N := some 12) (v := ?_) (a' := ?_) m5_ rfl rfl s2_ (fun _ _ _ h => h) (Or.inl ⟨by rfl, ?_⟩) ?_ ?_
 rotate_left
 {
 intro w'
 go_simp
 with_reducible rfl}
 rotate_left
 · exact p1_
 refine pure_ (i := 7) (N := some 13) (v := ?_) (a' := ?_) m6_ rfl rfl s2_ (fun _ _ _ h => h) (Or.inl ⟨by rfl, ?_⟩) ?_ ?_
 rotate_left
 {
 intro w'
 go_simp
 with_reducible rfl}
 rotate_left
 · exact p1_
 refine take_ (i := 3) (N := some 9) (v := ?_) (a' := ?_) m7_ rfl rfl s2_ (fun _ _ _ h => h) (Or.inl ⟨by rfl, ?_⟩) hHeld ?_ ?_
 rotate_left
 {
 rintro w' ⟨s0, s1, s2⟩
 go_simp
 with_reducible rfl}
 rotate_left
 · exact p1_
 refine pure_ (i := 4) (N := some 10) (v := ?_) (a' := ?_) m8_ rfl rfl s2_ (fun _ _ _ h => h) (Or.inl ⟨by rfl, ?_⟩) ?_ ?_
 rotate_left
 {
 intro w'
 go_simp
 with_reducible rfl}
 rotate_left
 · exact p1_
 refine take_ (i := 8) (N := some 14) (v := ?_) (a' := ?_) m9_ rfl rfl s2_ (fun _ _ _ h => h) (Or.inl ⟨by rfl, ?_⟩) hHeld ?_ ?_
 rotate_left
 {
 rintro w' ⟨s0, s1, s2⟩
 go_simp
 with_reducible rfl}
 rotate_left
 · exact p1_
 refine pure_ (i := 9) (N := some 15) (v := ?_) (a' := ?_) m10_ rfl rfl s2_ (fun _ _ _ h => h) (Or.inl ⟨by rfl, ?_⟩) ?_ ?_
 rotate_left
 {
 intro w'
 go_simp
 with_reducible rfl}
 rotate_left
 · exact p1_
 refine pure_ (i := 10) (N := some 16) (v := ?_) (a' := ?_) m11_ rfl rfl s2_ (fun _ _ _ h => h) (Or.inl ⟨by rfl, ?_⟩) ?_ ?_
 rotate_left
 {
 intro w'
 go_simp
 with_reducible rfl}
 rotate_left
 · exact p1_
 refine pure_ (i := 11) (N := some 4) (v := ?_) (a' := ?_) m12_ rfl rfl s2_ (fun _ _ _ h => h) (Or.inl ⟨by rfl, ?_⟩) ?_ ?_
 rotate_left
 {
 intro w'
 go_simp
 with_reducible rfl}
 rotate_left
 · exact p1_
 refine done_ s2_ ?_
 try go_wp2_with (fail)
 have n0_ := Aside0.mk (Kd.R_drew HO138.out)
 have n1_ := Aside0.mk (Kd.R_drew HO141.out)
 have n2_ := Aside0.mk (Kd.R_drew HO144.out)
 have n3_ := Aside0.mk (blk_drew BK130.out)
 have n4_ := Aside0.mk (blk_drew BK131.out)
 have n5_ := Aside0.mk (blk_drew BK132.out)
 have n6_ := Aside0.mk (blk_drew BK133.out)
 have n7_ := Aside0.mk (blk_drew BK134.out)
 have n8_ := Aside0.mk (blk_drew BK145.out)
 have n9_ := Aside0.mk (below_drew1 HB.out)
 clear HO138
 clear HO141
 clear HO144
 clear BK130
 clear BK131
 clear BK132
 clear BK133
 clear BK134
 clear BK145
 clear HB
 have HO138 := n0_
 have HO141 := n1_
 have HO144 := n2_
 have BK130 := n3_
 have BK131 := n4_
 have BK132 := n5_
 have BK133 := n6_
 have BK134 := n7_
 have BK145 := n8_
 have HB := n9_
 clear n0_ n1_ n2_ n3_ n4_ n5_ n6_ n7_ n8_ n9_
 refine start_ (n := 20) (S := fun w' => w'.cell? ⟨gb145, 0, none⟩ = some (.slice Ao74 t136.length co74) ∧ w'.cell? ⟨gb145, 1, none⟩ = some (.slice Ao81 t139.length co81) ∧ w'.cell? ⟨gb145, 2, none⟩ = some (.slice Ao82 t142.length co82)) (ds := [16, 19]) m13_ s2_ rfl rfl ⟨(blk_cell BK145.out 0).trans rfl, (blk_cell BK145.out 1).trans rfl, (blk_cell BK145.out 2).trans rfl⟩ (fun hHeld => ?_)
 generalize w84.drew = w85 at HO138 HO141 HO144 BK130 BK131 BK132 BK133 BK134 BK145 HB hHeld ⊢
 refine pure_ (i := 0) (N := some 18) (v := ?_) (a' := ?_) m14_ rfl rfl s2_ (fun _ _ _ h => h) (Or.inl ⟨by rfl, ?_⟩) ?_ ?_
 rotate_left
 {
 intro w'
 go_simp
 with_reducible rfl}
 rotate_left
 · exact p1_
 refine pure_ (i := 1) (N := some 19) (v := ?_) (a' := ?_) m15_ rfl rfl s2_ (fun _ _ _ h => h) (Or.inl ⟨by rfl, ?_⟩) ?_ ?_
 rotate_left
 {
 intro w'
 go_simp
 with_reducible rfl}
 rotate_left
 · exact p1_
 refine pure_ (i := 2) (N := some 20) (v := ?_) (a' := ?_) m16_ rfl rfl s2_ (fun _ _ _ h => h) (Or.inl ⟨by rfl, ?_⟩) ?_ ?_
 rotate_left
 {
 intro w'
 go_simp
 with_reducible rfl}
 rotate_left
 · exact p1_
 refine pure_ (i := 3) (N := some 21) (v := ?_) (a' := ?_) m17_ rfl rfl s2_ (fun _ _ _ h => h) (Or.inl ⟨by rfl, ?_⟩) ?_ ?_
 rotate_left
 {
 intro w'
 go_simp
 with_reducible rfl}
 rotate_left
 · exact p1_
 refine pure_ (i := 4) (N := some 22) (v := ?_) (a' := ?_) m18_ rfl rfl s2_ (fun _ _ _ h => h) (Or.inl ⟨by rfl, ?_⟩) ?_ ?_
 rotate_left
 {
 intro w'
 go_simp
 with_reducible rfl}
 rotate_left
 · exact p1_
 refine pure_ (i := 6) (N := some 24) (v := ?_) (a' := ?_) m19_ rfl rfl s2_ (fun _ _ _ h => h) (Or.inl ⟨by rfl, ?_⟩) ?_ ?_
 rotate_left
 {
 intro w'
 go_simp
 with_reducible rfl}
 rotate_left
 · exact p1_
 refine pure_ (i := 8) (N := some 26) (v := ?_) (a' := ?_) m20_ rfl rfl s2_ (fun _ _ _ h => h) (Or.inl ⟨by rfl, ?_⟩) ?_ ?_
 rotate_left
 {
 intro w'
 go_simp
 with_reducible rfl}
 rotate_left
 · exact p1_
 refine pure_ (i := 9) (N := some 27) (v := ?_) (a' := ?_) m21_ rfl rfl s2_ (fun _ _ _ h => h) (Or.inl ⟨by rfl, ?_⟩) ?_ ?_
 rotate_left
 {
 intro w'
 go_simp
 with_reducible rfl}
 rotate_left
 · exact p1_
 refine pure_ (i := 10) (N := some 28) (v := ?_) (a' := ?_) m22_ rfl rfl s2_ (fun _ _ _ h => h) (Or.inl ⟨by rfl, ?_⟩) ?_ ?_
 rotate_left
 {
 intro w'
 go_simp
 with_reducible rfl}
 rotate_left
 · exact p1_
 refine pure_ (i := 12) (N := some 30) (v := ?_) (a' := ?_) m23_ rfl rfl s2_ (fun _ _ _ h => h) (Or.inl ⟨by rfl, ?_⟩) ?_ ?_
 rotate_left
 {
 intro w'
 go_simp
 with_reducible rfl}
 rotate_left
 · exact p1_
 refine take_ (i := 5) (N := some 23) (v := ?_) (a' := ?_) m24_ rfl rfl s2_ (fun _ _ _ h => h) (Or.inl ⟨by rfl, ?_⟩) hHeld ?_ ?_
 rotate_left
 {
 rintro w' ⟨s0, s1, s2⟩
 go_simp
 with_reducible rfl}
 rotate_left
 · exact p1_
 refine take_ (i := 11) (N := some 29) (v := ?_) (a' := ?_) m25_ rfl rfl s2_ (fun _ _ _ h => h) (Or.inl ⟨by rfl, ?_⟩) hHeld ?_ ?_
 rotate_left
 {
 rintro w' ⟨s0, s1, s2⟩
 go_simp
 with_reducible rfl}
 rotate_left
 · exact p1_
 refine one_ (i := 7) (N := some 25) m26_ rfl rfl s2_ (by decide) (fun K hK => ?_)
 refine goes_ Try.func53 s2_ rfl #[.slice Ao74 t136.length co74, .func (.func 52) #[] #[.pointer (some ⟨gb131, 0, none⟩)]] (by rfl) rfl rfl s3_ ?_
 with_reducible refine (impl_dropLeases_v0.calls k (fun k_ => some k_ = (.slice Ao74 t136.length co74 : Value).ownBlock) (.slice Ao74 t136.length co74) t136 gb131 a1 t146 w _ ?side1 ?side2 ?side3 A6.out).mono ?_
 (case side1 => repeat (first | (with_reducible first | exact HB.out | apply below_alloc | apply pw_below_drewN | apply below_drew1) | exact HB.out))
 (case side2 => exact (b1_ BK131.out))
 (case side3 => exact Kd.R_tight rfl HO138.out)
 rintro e w86 ⟨v147, rfl, ho0, hb, hkp⟩
 refine ⟨_, rfl, ?_⟩
 have n0_ := Aside0.mk (blk_kept (b1_ BK130.out) hkp (fun hs_ => (fun e_ => (Kd.R_ne HO138.out BK130.out (by decide)) e_) hs_))
 have n1_ := Aside0.mk (blk_kept (b1_ BK131.out) hkp (fun hs_ => (fun e_ => (Kd.R_ne HO138.out BK131.out (by decide)) e_) hs_))
 have n2_ := Aside0.mk (blk_kept (b1_ BK132.out) hkp (fun hs_ => (fun e_ => (Kd.R_ne HO138.out BK132.out (by decide)) e_) hs_))
 have n3_ := Aside0.mk (blk_kept (b1_ BK133.out) hkp (fun hs_ => (fun e_ => (Kd.R_ne HO138.out BK133.out (by decide)) e_) hs_))
 have n4_ := Aside0.mk (blk_kept (b1_ BK134.out) hkp (fun hs_ => (fun e_ => (Kd.R_ne HO138.out BK134.out (by decide)) e_) hs_))
 have n5_ := Aside0.mk (Kd.R_mono (ok' := fun k_ => some k_ ≠ (v147 : Value).ownBlock) (Kd.R_keptB (HO141.out) hkp (fun k_ hk_ hs_ => (hk_) hs_)) (fun k_ hk_ => fun e_ => Or.elim (ho0.1 k_ e_.symm) (fun hs_ => hk_.2.1 hs_) (fun hn_ => Nat.not_le.2 hk_.2.2 hn_)))
 have n6_ := Aside0.mk (Kd.R_mono (ok' := fun k_ => True) (Kd.R_keptB ((Kd.R_apart' HO144.out (Kd.R_typed HO138.out) (by decide))) hkp (fun k_ hk_ hs_ => (hk_.2) hs_)) (fun k_ hk_ => trivial))
 have n7_ := Aside0.mk (blk_kept (b1_ BK145.out) hkp (fun hs_ => (fun e_ => (Kd.R_ne HO138.out BK145.out (by decide)) e_) hs_))
 have n8_ := Aside0.mk (Kd.R_mono (ok' := fun k_ => some k_ ≠ (.slice Ao81 t139.length co81 : Value).ownBlock) ho0 (fun k_ hk_ => Or.elim hk_ (fun hs_ => fun e_ => (((HO141.out).1 k_ e_.symm)) hs_) (fun hn_ => (Kd.fresh' (Kd.R_lt (b2_ HO141.out)) k_ hn_))))
 have n9_ := Aside0.mk (hb)
 clear BK130
 clear BK131
 clear BK132
 clear BK133
 clear BK134
 clear HO141
 clear HO144
 clear BK145
 clear HB
 clear HO138
 have BK130 := n0_
 have BK131 := n1_
 have BK132 := n2_
 have BK133 := n3_
 have BK134 := n4_
 have HO141 := n5_
 have HO144 := n6_
 have BK145 := n7_
 have HO148 := n8_
 have HB := n9_
 clear n0_ n1_ n2_ n3_ n4_ n5_ n6_ n7_ n8_ n9_
 (try clear hb)
 (try clear hkp)
 (try clear ho0)
 refine hK.out _ _ ⟨(blk_cell BK145.out 0).trans rfl, (blk_cell BK145.out 1).trans rfl, (blk_cell BK145.out 2).trans rfl⟩ (fun hHeld => ?_)
 clear hK K
 refine norm_ (a' := ?_) ?_ ?_
 rotate_left
 {
 show Act.put _ (some 25) _ = _
 simp only [Act.put, List.setIfInBounds_toArray, List.set_cons_zero, List.set_cons_succ, i64_w, i32_w]
 rfl}
 refine one_ (i := 13) (N := some 31) m27_ rfl rfl s2_ (by decide) (fun K hK => ?_)
 refine goes_ Try.func53 s2_ rfl #[.slice Ao81 t139.length co81, .func (.func 52) #[] #[.pointer (some ⟨gb131, 0, none⟩)]] (by rfl) rfl rfl s3_ ?_
 with_reducible refine (impl_dropLeases_v0.calls k (fun k_ => some k_ = (.slice Ao81 t139.length co81 : Value).ownBlock) (.slice Ao81 t139.length co81) t139 gb131 a1 t149 w _ ?side1 ?side2 ?side3 A7.out).mono ?_
 (case side1 => repeat (first | (with_reducible first | exact HB.out | apply below_alloc | apply pw_below_drewN | apply below_drew1) | exact HB.out))
 (case side2 => exact (b1_ BK131.out))
 (case side3 => exact Kd.R_tight rfl HO141.out)
 rintro e w87 ⟨v150, rfl, ho0, hb, hkp⟩
 refine ⟨_, rfl, ?_⟩
 have n0_ := Aside0.mk (blk_kept (b1_ BK130.out) hkp (fun hs_ => (fun e_ => (Kd.R_ne HO141.out BK130.out (by decide)) e_) hs_))
 have n1_ := Aside0.mk (blk_kept (b1_ BK131.out) hkp (fun hs_ => (fun e_ => (Kd.R_ne HO141.out BK131.out (by decide)) e_) hs_))
 have n2_ := Aside0.mk (blk_kept (b1_ BK132.out) hkp (fun hs_ => (fun e_ => (Kd.R_ne HO141.out BK132.out (by decide)) e_) hs_))
 have n3_ := Aside0.mk (blk_kept (b1_ BK133.out) hkp (fun hs_ => (fun e_ => (Kd.R_ne HO141.out BK133.out (by decide)) e_) hs_))
 have n4_ := Aside0.mk (blk_kept (b1_ BK134.out) hkp (fun hs_ => (fun e_ => (Kd.R_ne HO141.out BK134.out (by decide)) e_) hs_))
 have n5_ := Aside0.mk (Kd.R_mono (ok' := fun k_ => True) (Kd.R_keptB ((Kd.R_apart' HO144.out (Kd.R_typed HO141.out) (by decide))) hkp (fun k_ hk_ hs_ => (hk_.2) hs_)) (fun k_ hk_ => trivial))
 have n6_ := Aside0.mk (blk_kept (b1_ BK145.out) hkp (fun hs_ => (fun e_ => (Kd.R_ne HO141.out BK145.out (by decide)) e_) hs_))
 have n7_ := Aside0.mk (Kd.R_mono (ok' := fun k_ => some k_ ≠ (v150 : Value).ownBlock) (Kd.R_keptB (HO148.out) hkp (fun k_ hk_ hs_ => (hk_) hs_)) (fun k_ hk_ => fun e_ => Or.elim (ho0.1 k_ e_.symm) (fun hs_ => hk_.2.1 hs_) (fun hn_ => Nat.not_le.2 hk_.2.2 hn_)))
 have n8_ := Aside0.mk (Kd.R_mono (ok' := fun k_ => some k_ ≠ (v147 : Value).ownBlock) ho0 (fun k_ hk_ => Or.elim hk_ (fun hs_ => fun e_ => (((HO148.out).1 k_ e_.symm)) hs_) (fun hn_ => (Kd.fresh' (Kd.R_lt (b2_ HO148.out)) k_ hn_))))
 have n9_ := Aside0.mk (hb)
 clear BK130
 clear BK131
 clear BK132
 clear BK133
 clear BK134
 clear HO144
 clear BK145
 clear HO148
 clear HB
 clear HO141
 have BK130 := n0_
 have BK131 := n1_
 have BK132 := n2_
 have BK133 := n3_
 have BK134 := n4_
 have HO144 := n5_
 have BK145 := n6_
 have HO148 := n7_
 have HO151 := n8_
 have HB := n9_
 clear n0_ n1_ n2_ n3_ n4_ n5_ n6_ n7_ n8_ n9_
 (try clear hb)
 (try clear hkp)
 (try clear ho0)
 obtain ⟨Ao88, co88, eo88⟩ := Kd.R_slice HO148.out
 (first | subst eo88 | (injection eo88 with f1_ f2_ f3_; have f4_ := f1_.symm; have f5_ := f3_.symm; clear f1_ f2_ f3_; subst f4_; subst f5_))
 obtain ⟨Ao90, co90, eo90⟩ := Kd.R_slice HO151.out
 (first | subst eo90 | (injection eo90 with f1_ f2_ f3_; have f4_ := f1_.symm; have f5_ := f3_.symm; clear f1_ f2_ f3_; subst f4_; subst f5_))
 refine hK.out _ _ ⟨(blk_cell BK145.out 0).trans rfl, (blk_cell BK145.out 1).trans rfl, (blk_cell BK145.out 2).trans rfl⟩ (fun hHeld => ?_)
 clear hK K
 refine norm_ (a' := ?_) ?_ ?_
 rotate_left
 {
 show Act.put _ (some 31) _ = _
 simp only [Act.put, List.setIfInBounds_toArray, List.set_cons_zero, List.set_cons_succ, i64_w, i32_w]
 rfl}
 refine pure_ (i := 14) (N := some 32) (v := ?_) (a' := ?_) m28_ rfl rfl s2_ (fun _ _ _ h => h) (Or.inl ⟨by rfl, ?_⟩) ?_ ?_
 rotate_left
 {
 intro w'
 go_simp
 with_reducible rfl}
 rotate_left
 · exact p1_
 refine pure_ (i := 15) (N := some 33) (v := ?_) (a' := ?_) m29_ rfl rfl s2_ (fun _ _ _ h => h) (Or.inl ⟨by rfl, ?_⟩) ?_ ?_
 rotate_left
 {
 intro w'
 go_simp
 with_reducible rfl}
 rotate_left
 · exact p1_
 refine last_ (i := 16) (N := none) m30_ rfl rfl s2_ (by decide) (fun K hK => ?_)
 have hs89 : w87.cell? ⟨gb145, 0, none⟩ = some (.slice Ao74 t136.length co74) := (blk_cell BK145.out 0).trans rfl
 have hfs89 := blk_frozen BK145.out 0
 have hns89_0 := NB130_145.out
 have hns89_1 := NB131_145.out
 have hns89_2 := NB132_145.out
 have hns89_3 := NB133_145.out
 have hns89_4 := NB134_145.out
 have hms89_0 := NB145_130.out
 have hms89_1 := NB145_131.out
 have hms89_2 := NB145_132.out
 have hms89_3 := NB145_133.out
 have hms89_4 := NB145_134.out
 refine skip_ (w1 := ?_) (by rfl) rfl ?_ ?_
 rotate_left
 {
 go_simp
 rfl}
 refine hK.out _ _ ?_
 clear hK K
 refine pure_ (i := 17) (N := some 34) (v := ?_) (a' := ?_) m31_ rfl rfl s2_ (fun _ _ _ h => h) (Or.inl ⟨by rfl, ?_⟩) ?_ ?_
 rotate_left
 {
 intro w'
 go_simp
 with_reducible rfl}
 rotate_left
 · exact p1_
 refine pure_ (i := 18) (N := some 35) (v := ?_) (a' := ?_) m32_ rfl rfl s2_ (fun _ _ _ h => h) (Or.inl ⟨by rfl, ?_⟩) ?_ ?_
 rotate_left
 {
 intro w'
 go_simp
 with_reducible rfl}
 rotate_left
 · exact p1_
 refine last_ (i := 19) (N := none) m33_ rfl rfl s2_ (by decide) (fun K hK => ?_)
 have hs91 : w87.cell? ⟨gb145, 1, none⟩ = some (.slice Ao81 t139.length co81) := (blk_cell BK145.out 1).trans rfl
 have hfs91 := blk_frozen BK145.out 1
 have hns91_0 := NB130_145.out
 have hns91_1 := NB131_145.out
 have hns91_2 := NB132_145.out
 have hns91_3 := NB133_145.out
 have hns91_4 := NB134_145.out
 have hms91_0 := NB145_130.out
 have hms91_1 := NB145_131.out
 have hms91_2 := NB145_132.out
 have hms91_3 := NB145_133.out
 have hms91_4 := NB145_134.out
 refine skip_ (w1 := ?_) (by rfl) rfl ?_ ?_
 rotate_left
 {
 go_simp
 rfl}
 refine hK.out _ _ ?_
 clear hK K
 refine done_ s2_ ?_
 try go_wp2_with (fail)
 have n0_ : Aside0 (Kd.R k73 73 ((w87.setCell ⟨gb145, 0, none⟩ (.slice Ao88 t146.length co88)).setCell ⟨gb145, 1, none⟩ (.slice Ao90 t149.length co90)) w.heap.size (fun _ => True) (.slice Ao82 t142.length co82) t142) := ⟨by (with_reducible repeat (first | apply Kd.R_alloc | apply Kd.R_drewN | apply Kd.R_drew)); exact Kd.R_mono (Kd.R_far (p := ⟨gb145, 1, none⟩) (Kd.R_far (p := ⟨gb145, 0, none⟩) (Kd.R_types HO144.out BK145.out (by decide)) (fun _ hk => hk.2) (.slice Ao88 t146.length co88)) (fun _ hk => hk.2) (.slice Ao90 t149.length co90)) (fun _ hk => trivial)⟩
 have n1_ : Aside0 (Kd.R k63 63 ((w87.setCell ⟨gb145, 0, none⟩ (.slice Ao88 t146.length co88)).setCell ⟨gb145, 1, none⟩ (.slice Ao90 t149.length co90)) w.heap.size (fun k_ => some k_ ≠ (.slice Ao90 t149.length co90 : Value).ownBlock) (.slice Ao88 t146.length co88) t146) := ⟨by (with_reducible repeat (first | apply Kd.R_alloc | apply Kd.R_drewN | apply Kd.R_drew)); exact Kd.R_mono (Kd.R_far (p := ⟨gb145, 1, none⟩) (Kd.R_far (p := ⟨gb145, 0, none⟩) (Kd.R_types HO148.out BK145.out (by decide)) (fun _ hk => hk.2) (.slice Ao88 t146.length co88)) (fun _ hk => hk.2) (.slice Ao90 t149.length co90)) (fun _ hk => hk.1)⟩
 have n2_ : Aside0 (Kd.R k63 63 ((w87.setCell ⟨gb145, 0, none⟩ (.slice Ao88 t146.length co88)).setCell ⟨gb145, 1, none⟩ (.slice Ao90 t149.length co90)) w.heap.size (fun k_ => some k_ ≠ (.slice Ao88 t146.length co88 : Value).ownBlock) (.slice Ao90 t149.length co90) t149) := ⟨by (with_reducible repeat (first | apply Kd.R_alloc | apply Kd.R_drewN | apply Kd.R_drew)); exact Kd.R_mono (Kd.R_far (p := ⟨gb145, 1, none⟩) (Kd.R_far (p := ⟨gb145, 0, none⟩) (Kd.R_types HO151.out BK145.out (by decide)) (fun _ hk => hk.2) (.slice Ao88 t146.length co88)) (fun _ hk => hk.2) (.slice Ao90 t149.length co90)) (fun _ hk => hk.1)⟩
 have n3_ : Aside0 (((w87.setCell ⟨gb145, 0, none⟩ (.slice Ao88 t146.length co88)).setCell ⟨gb145, 1, none⟩ (.slice Ao90 t149.length co90)).heap[gb130]? = some (.cells #[.slice A0_0 l0_0.length c0_0, .slice A0_1 l0_1.length c0_1, .slice A0_2 l0_2.length c0_2] 27 (0, 0))) := ⟨by (with_reducible repeat (first | refine blk_drewN ?_ _ | refine blk_drew ?_ | refine blk_alloc ?_ _)); refine blk_far ?_ NB130_145.out _; (with_reducible repeat (first | refine blk_drewN ?_ _ | refine blk_drew ?_ | refine blk_alloc ?_ _)); refine blk_far ?_ NB130_145.out _; (with_reducible repeat (first | refine blk_drewN ?_ _ | refine blk_drew ?_ | refine blk_alloc ?_ _)); exact BK130.out⟩
 have n4_ : Aside0 (((w87.setCell ⟨gb145, 0, none⟩ (.slice Ao88 t146.length co88)).setCell ⟨gb145, 1, none⟩ (.slice Ao90 t149.length co90)).heap[gb131]? = some (.cells #[.int .i64 a1] 2 (0, 0))) := ⟨by (with_reducible repeat (first | refine blk_drewN ?_ _ | refine blk_drew ?_ | refine blk_alloc ?_ _)); refine blk_far ?_ NB131_145.out _; (with_reducible repeat (first | refine blk_drewN ?_ _ | refine blk_drew ?_ | refine blk_alloc ?_ _)); refine blk_far ?_ NB131_145.out _; (with_reducible repeat (first | refine blk_drewN ?_ _ | refine blk_drew ?_ | refine blk_alloc ?_ _)); exact BK131.out⟩
 have n5_ : Aside0 (((w87.setCell ⟨gb145, 0, none⟩ (.slice Ao88 t146.length co88)).setCell ⟨gb145, 1, none⟩ (.slice Ao90 t149.length co90)).heap[gb132]? = some (.cells #[.slice none 0 0, .slice none 0 0, .slice none 0 0] 27 (0, 0))) := ⟨by (with_reducible repeat (first | refine blk_drewN ?_ _ | refine blk_drew ?_ | refine blk_alloc ?_ _)); refine blk_far ?_ NB132_145.out _; (with_reducible repeat (first | refine blk_drewN ?_ _ | refine blk_drew ?_ | refine blk_alloc ?_ _)); refine blk_far ?_ NB132_145.out _; (with_reducible repeat (first | refine blk_drewN ?_ _ | refine blk_drew ?_ | refine blk_alloc ?_ _)); exact BK132.out⟩
 have n6_ : Aside0 (((w87.setCell ⟨gb145, 0, none⟩ (.slice Ao88 t146.length co88)).setCell ⟨gb145, 1, none⟩ (.slice Ao90 t149.length co90)).heap[gb133]? = some (.cells #[.slice A0_0 l0_0.length c0_0, .slice A0_1 l0_1.length c0_1, .slice A0_2 l0_2.length c0_2] 27 (0, 0))) := ⟨by (with_reducible repeat (first | refine blk_drewN ?_ _ | refine blk_drew ?_ | refine blk_alloc ?_ _)); refine blk_far ?_ NB133_145.out _; (with_reducible repeat (first | refine blk_drewN ?_ _ | refine blk_drew ?_ | refine blk_alloc ?_ _)); refine blk_far ?_ NB133_145.out _; (with_reducible repeat (first | refine blk_drewN ?_ _ | refine blk_drew ?_ | refine blk_alloc ?_ _)); exact BK133.out⟩
 have n7_ : Aside0 (((w87.setCell ⟨gb145, 0, none⟩ (.slice Ao88 t146.length co88)).setCell ⟨gb145, 1, none⟩ (.slice Ao90 t149.length co90)).heap[gb134]? = some (.cells #[.slice none 0 0, .slice none 0 0, .slice none 0 0] 27 (0, 0))) := ⟨by (with_reducible repeat (first | refine blk_drewN ?_ _ | refine blk_drew ?_ | refine blk_alloc ?_ _)); refine blk_far ?_ NB134_145.out _; (with_reducible repeat (first | refine blk_drewN ?_ _ | refine blk_drew ?_ | refine blk_alloc ?_ _)); refine blk_far ?_ NB134_145.out _; (with_reducible repeat (first | refine blk_drewN ?_ _ | refine blk_drew ?_ | refine blk_alloc ?_ _)); exact BK134.out⟩
 have n8_ : Aside0 (((w87.setCell ⟨gb145, 0, none⟩ (.slice Ao88 t146.length co88)).setCell ⟨gb145, 1, none⟩ (.slice Ao90 t149.length co90)).heap[gb145]? = some (.cells #[.slice Ao88 t146.length co88, .slice Ao90 t149.length co90, .slice Ao82 t142.length co82] 27 (0, 0))) := ⟨by (with_reducible repeat (first | refine blk_drewN ?_ _ | refine blk_drew ?_ | refine blk_alloc ?_ _)); refine blk_put (cs := #[.slice Ao88 t146.length co88, .slice Ao81 t139.length co81, .slice Ao82 t142.length co82]) ?_ 1 _ rfl; (with_reducible repeat (first | refine blk_drewN ?_ _ | refine blk_drew ?_ | refine blk_alloc ?_ _)); refine blk_put (cs := #[.slice Ao74 t136.length co74, .slice Ao81 t139.length co81, .slice Ao82 t142.length co82]) ?_ 0 _ rfl; (with_reducible repeat (first | refine blk_drewN ?_ _ | refine blk_drew ?_ | refine blk_alloc ?_ _)); exact BK145.out⟩
 have n9_ : Aside0 (Below w.heap.size w ((w87.setCell ⟨gb145, 0, none⟩ (.slice Ao88 t146.length co88)).setCell ⟨gb145, 1, none⟩ (.slice Ao90 t149.length co90))) := ⟨by repeat (first | (with_reducible first | exact HB.out | apply below_alloc | apply pw_below_drewN | apply below_drew1 | refine below_set ?_ GE145.out) | exact HB.out)⟩
 (try clear HO144)
 (try clear HO148)
 (try clear HO151)
 (try clear BK130)
 (try clear BK131)
 (try clear BK132)
 (try clear BK133)
 (try clear BK134)
 (try clear BK145)
 (try clear HB)
 generalize ((w87.setCell ⟨gb145, 0, none⟩ (.slice Ao88 t146.length co88)).setCell ⟨gb145, 1, none⟩ (.slice Ao90 t149.length co90)) = w92 at n0_ n1_ n2_ n3_ n4_ n5_ n6_ n7_ n8_ n9_ ⊢
 have HO144 := n0_
 have HO148 := n1_
 have HO151 := n2_
 have BK130 := n3_
 have BK131 := n4_
 have BK132 := n5_
 have BK133 := n6_
 have BK134 := n7_
 have BK145 := n8_
 have HB := n9_
 clear n0_ n1_ n2_ n3_ n4_ n5_ n6_ n7_ n8_ n9_
 have n0_ := Aside0.mk (Kd.R_drew HO144.out)
 have n1_ := Aside0.mk (Kd.R_drew HO148.out)
 have n2_ := Aside0.mk (Kd.R_drew HO151.out)
 have n3_ := Aside0.mk (blk_drew BK130.out)
 have n4_ := Aside0.mk (blk_drew BK131.out)
 have n5_ := Aside0.mk (blk_drew BK132.out)
 have n6_ := Aside0.mk (blk_drew BK133.out)
 have n7_ := Aside0.mk (blk_drew BK134.out)
 have n8_ := Aside0.mk (blk_drew BK145.out)
 have n9_ := Aside0.mk (below_drew1 HB.out)
 clear HO144
 clear HO148
 clear HO151
 clear BK130
 clear BK131
 clear BK132
 clear BK133
 clear BK134
 clear BK145
 clear HB
 have HO144 := n0_
 have HO148 := n1_
 have HO151 := n2_
 have BK130 := n3_
 have BK131 := n4_
 have BK132 := n5_
 have BK133 := n6_
 have BK134 := n7_
 have BK145 := n8_
 have HB := n9_
 clear n0_ n1_ n2_ n3_ n4_ n5_ n6_ n7_ n8_ n9_
 refine start_ (n := 14) (S := fun w' => w'.cell? ⟨gb145, 0, none⟩ = some (.slice Ao88 t146.length co88) ∧ w'.cell? ⟨gb145, 1, none⟩ = some (.slice Ao90 t149.length co90) ∧ w'.cell? ⟨gb145, 2, none⟩ = some (.slice Ao82 t142.length co82)) (ds := []) m34_ s2_ rfl rfl ⟨(blk_cell BK145.out 0).trans rfl, (blk_cell BK145.out 1).trans rfl, (blk_cell BK145.out 2).trans rfl⟩ (fun hHeld => ?_)
 generalize w92.drew = w93 at HO144 HO148 HO151 BK130 BK131 BK132 BK133 BK134 BK145 HB hHeld ⊢
 refine pure_ (i := 0) (N := some 36) (v := ?_) (a' := ?_) m35_ rfl rfl s2_ (fun _ _ _ h => h) (Or.inl ⟨by rfl, ?_⟩) ?_ ?_
 rotate_left
 {
 intro w'
 go_simp
 with_reducible rfl}
 rotate_left
 · exact p1_
 refine pure_ (i := 1) (N := some 37) (v := ?_) (a' := ?_) m36_ rfl rfl s2_ (fun _ _ _ h => h) (Or.inl ⟨by rfl, ?_⟩) ?_ ?_
 rotate_left
 {
 intro w'
 go_simp
 with_reducible rfl}
 rotate_left
 · exact p1_
 refine pure_ (i := 2) (N := some 38) (v := ?_) (a' := ?_) m37_ rfl rfl s2_ (fun _ _ _ h => h) (Or.inl ⟨by rfl, ?_⟩) ?_ ?_
 rotate_left
 {
 intro w'
 go_simp
 with_reducible rfl}
 rotate_left
 · exact p1_
 refine pure_ (i := 5) (N := some 41) (v := ?_) (a' := ?_) m38_ rfl rfl s2_ (fun _ _ _ h => h) (Or.inl ⟨by rfl, ?_⟩) ?_ ?_
 rotate_left
 {
 intro w'
 go_simp
 with_reducible rfl}
 rotate_left
 · exact p1_
 refine pure_ (i := 6) (N := some 42) (v := ?_) (a' := ?_) m39_ rfl rfl s2_ (fun _ _ _ h => h) (Or.inl ⟨by rfl, ?_⟩) ?_ ?_
 rotate_left
 {
 intro w'
 go_simp
 with_reducible rfl}
 rotate_left
 · exact p1_
 refine pure_ (i := 7) (N := some 43) (v := ?_) (a' := ?_) m40_ rfl rfl s2_ (fun _ _ _ h => h) (Or.inl ⟨by rfl, ?_⟩) ?_ ?_
 rotate_left
 {
 intro w'
 go_simp
 with_reducible rfl}
 rotate_left
 · exact p1_
 refine pure_ (i := 11) (N := some 47) (v := ?_) (a' := ?_) m41_ rfl rfl s2_ (fun _ _ _ h => h) (Or.inl ⟨by rfl, ?_⟩) ?_ ?_
 rotate_left
 {
 intro w'
 go_simp
 with_reducible rfl}
 rotate_left
 · exact p1_
 refine take_ (i := 3) (N := some 39) (v := ?_) (a' := ?_) m42_ rfl rfl s2_ (fun _ _ _ h => h) (Or.inl ⟨by rfl, ?_⟩) hHeld ?_ ?_
 rotate_left
 {
 rintro w' ⟨s0, s1, s2⟩
 go_simp
 with_reducible rfl}
 rotate_left
 · exact p1_
 refine pure_ (i := 4) (N := some 40) (v := ?_) (a' := ?_) m43_ rfl rfl s2_ (fun _ _ _ h => h) (Or.inl ⟨by rfl, ?_⟩) ?_ ?_
 rotate_left
 {
 intro w'
 go_simp
 with_reducible rfl}
 rotate_left
 · exact p1_
 refine take_ (i := 8) (N := some 44) (v := ?_) (a' := ?_) m44_ rfl rfl s2_ (fun _ _ _ h => h) (Or.inl ⟨by rfl, ?_⟩) hHeld ?_ ?_
 rotate_left
 {
 rintro w' ⟨s0, s1, s2⟩
 go_simp
 with_reducible rfl}
 rotate_left
 · exact p1_
 refine pure_ (i := 9) (N := some 45) (v := ?_) (a' := ?_) m45_ rfl rfl s2_ (fun _ _ _ h => h) (Or.inl ⟨by rfl, ?_⟩) ?_ ?_
 rotate_left
 {
 intro w'
 go_simp
 with_reducible rfl}
 rotate_left
 · exact p1_
 refine pure_ (i := 10) (N := some 46) (v := ?_) (a' := ?_) m46_ rfl rfl s2_ (fun _ _ _ h => h) (Or.inl ⟨by rfl, ?_⟩) ?_ ?_
 rotate_left
 {
 intro w'
 go_simp
 with_reducible rfl}
 rotate_left
 · exact p1_
 refine pure_ (i := 12) (N := some 48) (v := ?_) (a' := ?_) m47_ rfl rfl s2_ (fun _ _ _ h => h) (Or.inl ⟨by rfl, ?_⟩) ?_ ?_
 rotate_left
 {
 intro w'
 go_simp
 with_reducible rfl}
 rotate_left
 · exact p1_
 refine pure_ (i := 13) (N := some 3) (v := ?_) (a' := ?_) m48_ rfl rfl s2_ (fun _ _ _ h => h) (Or.inl ⟨by rfl, ?_⟩) ?_ ?_
 rotate_left
 {
 intro w'
 go_simp
 with_reducible rfl}
 rotate_left
 · exact p1_
 refine done_ s2_ ?_
 have hcz94_0 : w93.cell? ⟨gb145, 0, none⟩ = some (.slice Ao88 t146.length co88) := (blk_cell BK145.out 0).trans rfl
 have hcz94_1 : w93.cell? ⟨gb145, 1, none⟩ = some (.slice Ao90 t149.length co90) := (blk_cell BK145.out 1).trans rfl
 have hcz94_2 : w93.cell? ⟨gb145, 2, none⟩ = some (.slice Ao82 t142.length co82) := (blk_cell BK145.out 2).trans rfl
 have hfz94_0 := blk_frozen BK145.out 0
 have hfz94_1 := blk_frozen BK145.out 1
 have hfz94_2 := blk_frozen BK145.out 2
 try go_wp2_with (first | (go_at_call 19; (with_reducible refine (impl_ValidPresence.calls k _ _ t146 _ _ t149 _ _ t142 false _ ?side1 ?side2 ?side3 ?side4 ?side5 ?side6 A9.out).mono ?_); (case side1 => exact y2_ (Kd.R_reads' HO148.out).2.2); (case side2 => exact (Kd.R_reads' HO148.out).2.1); (case side3 => exact y2_ (Kd.R_reads' HO151.out).2.2); (case side4 => exact (Kd.R_reads' HO151.out).2.1); (case side5 => exact y2_ (Kd.R_reads' HO144.out).2.2); (case side6 => exact (Kd.R_reads' HO144.out).2.1); rintro e w95 ⟨rfl, hb⟩; have n0_ := Aside0.mk (Kd.R_below (b2_ HO144.out) hb); have n1_ := Aside0.mk (Kd.R_below (b2_ HO148.out) hb); have n2_ := Aside0.mk (Kd.R_below (b2_ HO151.out) hb); have n3_ := Aside0.mk (blk_below (g := gb130) (o := .cells #[.slice A0_0 l0_0.length c0_0, .slice A0_1 l0_1.length c0_1, .slice A0_2 l0_2.length c0_2] 27 (0, 0)) (b1_ BK130.out) hb); have n4_ := Aside0.mk (blk_below (g := gb131) (o := .cells #[.int .i64 a1] 2 (0, 0)) (b1_ BK131.out) hb); have n5_ := Aside0.mk (blk_below (g := gb132) (o := .cells #[.slice none 0 0, .slice none 0 0, .slice none 0 0] 27 (0, 0)) (b1_ BK132.out) hb); have n6_ := Aside0.mk (blk_below (g := gb133) (o := .cells #[.slice A0_0 l0_0.length c0_0, .slice A0_1 l0_1.length c0_1, .slice A0_2 l0_2.length c0_2] 27 (0, 0)) (b1_ BK133.out) hb); have n7_ := Aside0.mk (blk_below (g := gb134) (o := .cells #[.slice none 0 0, .slice none 0 0, .slice none 0 0] 27 (0, 0)) (b1_ BK134.out) hb); have n8_ := Aside0.mk (blk_below (g := gb145) (o := .cells #[.slice Ao88 t146.length co88, .slice Ao90 t149.length co90, .slice Ao82 t142.length co82] 27 (0, 0)) (b1_ BK145.out) hb); have n9_ := Aside0.mk (below_step (y1_ HB.out) hb); clear HO144; clear HO148; clear HO151; clear BK130; clear BK131; clear BK132; clear BK133; clear BK134; clear BK145; clear HB; have HO144 := n0_; have HO148 := n1_; have HO151 := n2_; have BK130 := n3_; have BK131 := n4_; have BK132 := n5_; have BK133 := n6_; have BK134 := n7_; have BK145 := n8_; have HB := n9_; clear n0_ n1_ n2_ n3_ n4_ n5_ n6_ n7_ n8_ n9_; (try clear hb); (try clear hb2); (try clear hk); (try clear hi); have hnb96 := NB134_130.out; have hnc96 := NB130_134.out; have hnb97 := NB134_131.out; have hnc97 := NB131_134.out; have hnb98 := NB134_132.out; have hnc98 := NB132_134.out; have hcz99_0 : w95.cell? ⟨gb134, 0, none⟩ = some (.slice none 0 0) := (blk_cell BK134.out 0).trans rfl; have hcz99_1 : w95.cell? ⟨gb134, 1, none⟩ = some (.slice none 0 0) := (blk_cell BK134.out 1).trans rfl; have hcz99_2 : w95.cell? ⟨gb134, 2, none⟩ = some (.slice none 0 0) := (blk_cell BK134.out 2).trans rfl; have hfz99_0 := blk_frozen BK134.out 0; have hfz99_1 := blk_frozen BK134.out 1; have hfz99_2 := blk_frozen BK134.out 2))
 (try simp only [Exit.inBlock, Exit.then])
 refine bodyPost_ret (results_ct rfl _ _ gb134 27 #[.slice none 0 0, .slice none 0 0, .slice none 0 0] (0, 0) _ rfl (by (with_reducible repeat (first | refine blk_drewN ?_ _ | refine blk_drew ?_ | refine blk_alloc ?_ _)); refine blk_put3 (cs := #[.slice none 0 0, .slice none 0 0, .slice none 0 0]) ?_ rfl; (with_reducible repeat (first | refine blk_drewN ?_ _ | refine blk_drew ?_ | refine blk_alloc ?_ _)); exact BK134.out) Try.underlying27 rfl s2_) rfl ?_
 (try simp only [])
 have hnb100 := NB132_131.out
 have hnc100 := NB131_132.out
 have hcz101_0 : w95.cell? ⟨gb132, 0, none⟩ = some (.slice none 0 0) := (blk_cell BK132.out 0).trans rfl
 have hcz101_1 : w95.cell? ⟨gb132, 1, none⟩ = some (.slice none 0 0) := (blk_cell BK132.out 1).trans rfl
 have hcz101_2 : w95.cell? ⟨gb132, 2, none⟩ = some (.slice none 0 0) := (blk_cell BK132.out 2).trans rfl
 have hfz101_0 := blk_frozen BK132.out 0
 have hfz101_1 := blk_frozen BK132.out 1
 have hfz101_2 := blk_frozen BK132.out 2
 try go_wp2_with (fail)
 refine bodyPost_ret (results_ct rfl _ _ gb132 27 #[.slice none 0 0, .slice none 0 0, .slice none 0 0] (0, 0) _ rfl (by (with_reducible repeat (first | refine blk_drewN ?_ _ | refine blk_drew ?_ | refine blk_alloc ?_ _)); refine blk_put3 (cs := #[.slice none 0 0, .slice none 0 0, .slice none 0 0]) ?_ rfl; (with_reducible repeat (first | refine blk_drewN ?_ _ | refine blk_drew ?_ | refine blk_alloc ?_ _)); refine blk_far3 ?_ NB132_134.out; (with_reducible repeat (first | refine blk_drewN ?_ _ | refine blk_drew ?_ | refine blk_alloc ?_ _)); exact BK132.out) Try.underlying27 rfl s2_) rfl ?_
 exact ⟨_, _, _, by first | rfl | (simp [errW_none, errW_some] <;> rfl) | (simp [*, errW_none, errW_some] <;> rfl), by first | exact Kd.R_nil _ _ _ _ _ | exact Kd.N_nil _ _ _ _ _ | exact Kd.V_nil _ _ _ _ _ | exact Kd.Q_nil _ _ _ _ _ | exact Kd.S_nil _ _ _ _ _, by first | exact Kd.R_nil _ _ _ _ _ | exact Kd.N_nil _ _ _ _ _ | exact Kd.V_nil _ _ _ _ _ | exact Kd.Q_nil _ _ _ _ _ | exact Kd.S_nil _ _ _ _ _, by first | exact Kd.R_nil _ _ _ _ _ | exact Kd.N_nil _ _ _ _ _ | exact Kd.V_nil _ _ _ _ _ | exact Kd.Q_nil _ _ _ _ _ | exact Kd.S_nil _ _ _ _ _, by repeat (first | (with_reducible first | exact HB.out | apply below_alloc | apply pw_below_drewN | apply below_drew1 | refine below_set ?_ GE132.out | refine below_set ?_ GE134.out) | exact HB.out)⟩}}
 {
 rw [if_neg c8] at H
 have c8b0 : decide ((wrap64 ((t146.length : Int) + (t149.length : Int))) < (wrap64 ((t136.length : Int) + (t139.length : Int)))) = false := decide_eq_false c8
 clear c8
 simp only [Option.some.injEq, Prod.mk.injEq] at H
 obtain ⟨rfl, rfl, rfl, rfl⟩ := H
 go_enter Try.func18, Try.ntmps18
 try go_wp2_with (first | ((with_reducible refine gate_dst (N := 2) rfl ?_); (try (refine gate_guard (by rfl) ?_; dsimp only)); refine box_event ?hg (N := 2) ?hd (cs := #[.slice A0_0 l0_0.length c0_0, .slice A0_1 l0_1.length c0_1, .slice A0_2 l0_2.length c0_2]) (t := 27) ?hr ?_; (case hd => rfl); (case hg => rfl); (case hr => first | (go_simp; done) | (go_simp; rfl)); intro gb130 hg w102 hbox hb; have n0_ := Aside0.mk (below_step (y1_ HB.out) hb); have n1_ := Aside0.mk (hbox); have n2_ := Aside0.mk ((by rw [hg]; exact (below_size (y1_ HB.out)) : w.heap.size ≤ gb130)); have n3_ := Aside0.mk ((by rw [hg]; exact (below_size (y1_ HB.out)) : w.heap.size ≤ gb130)); clear HB; have HB := n0_; have BK130 := n1_; have GW130 := n2_; have GE130 := n3_; clear n0_ n1_ n2_ n3_; clear hb hbox hg) | ((with_reducible refine gate_dst (N := 3) rfl ?_); (try (refine gate_guard (by rfl) ?_; dsimp only)); refine box_event ?hg (N := 3) ?hd (cs := #[.int .i64 a1]) (t := 2) ?hr ?_; (case hd => rfl); (case hg => rfl); (case hr => first | (go_simp; done) | (go_simp; rfl)); intro gb131 hg w103 hbox hb; have n0_ := Aside0.mk (blk_below (g := gb130) (o := .cells #[.slice A0_0 l0_0.length c0_0, .slice A0_1 l0_1.length c0_1, .slice A0_2 l0_2.length c0_2] 27 (0, 0)) (b1_ BK130.out) hb); have n1_ := Aside0.mk (below_step (y1_ HB.out) hb); have n2_ := Aside0.mk (hbox); have n3_ := Aside0.mk ((by rw [hg]; exact (below_size (y1_ HB.out)) : w.heap.size ≤ gb131)); have n4_ := Aside0.mk ((by rw [hg]; exact (below_size (y1_ HB.out)) : w.heap.size ≤ gb131)); have n5_ := Aside0.mk ((by rw [hg]; exact Nat.ne_of_lt (blk_lt (g := gb130) (o := .cells #[.slice A0_0 l0_0.length c0_0, .slice A0_1 l0_1.length c0_1, .slice A0_2 l0_2.length c0_2] 27 (0, 0)) (b1_ BK130.out)) : gb130 ≠ gb131)); have n6_ := Aside0.mk ((by rw [hg]; exact Nat.ne_of_gt (blk_lt (g := gb130) (o := .cells #[.slice A0_0 l0_0.length c0_0, .slice A0_1 l0_1.length c0_1, .slice A0_2 l0_2.length c0_2] 27 (0, 0)) (b1_ BK130.out)) : gb131 ≠ gb130)); clear BK130; clear HB; have BK130 := n0_; have HB := n1_; have BK131 := n2_; have GW131 := n3_; have GE131 := n4_; have NB130_131 := n5_; have NB131_130 := n6_; clear n0_ n1_ n2_ n3_ n4_ n5_ n6_; clear hb hbox hg) | ((with_reducible refine gate_dst (N := 4) rfl ?_); (try (refine gate_guard (by rfl) ?_; dsimp only)); refine box_event ?hg (N := 4) ?hd (cs := #[.slice none 0 0, .slice none 0 0, .slice none 0 0]) (t := 27) ?hr ?_; (case hd => rfl); (case hg => rfl); (case hr => first | (go_simp; done) | (go_simp; rfl)); intro gb132 hg w104 hbox hb; have n0_ := Aside0.mk (blk_below (g := gb130) (o := .cells #[.slice A0_0 l0_0.length c0_0, .slice A0_1 l0_1.length c0_1, .slice A0_2 l0_2.length c0_2] 27 (0, 0)) (b1_ BK130.out) hb); have n1_ := Aside0.mk (blk_below (g := gb131) (o := .cells #[.int .i64 a1] 2 (0, 0)) (b1_ BK131.out) hb); have n2_ := Aside0.mk (below_step (y1_ HB.out) hb); have n3_ := Aside0.mk (hbox); have n4_ := Aside0.mk ((by rw [hg]; exact (below_size (y1_ HB.out)) : w.heap.size ≤ gb132)); have n5_ := Aside0.mk ((by rw [hg]; exact (below_size (y1_ HB.out)) : w.heap.size ≤ gb132)); have n6_ := Aside0.mk ((by rw [hg]; exact Nat.ne_of_lt (blk_lt (g := gb130) (o := .cells #[.slice A0_0 l0_0.length c0_0, .slice A0_1 l0_1.length c0_1, .slice A0_2 l0_2.length c0_2] 27 (0, 0)) (b1_ BK130.out)) : gb130 ≠ gb132)); have n7_ := Aside0.mk ((by rw [hg]; exact Nat.ne_of_gt (blk_lt (g := gb130) (o := .cells #[.slice A0_0 l0_0.length c0_0, .slice A0_1 l0_1.length c0_1, .slice A0_2 l0_2.length c0_2] 27 (0, 0)) (b1_ BK130.out)) : gb132 ≠ gb130)); have n8_ := Aside0.mk ((by rw [hg]; exact Nat.ne_of_lt (blk_lt (g := gb131) (o := .cells #[.int .i64 a1] 2 (0, 0)) (b1_ BK131.out)) : gb131 ≠ gb132)); have n9_ := Aside0.mk ((by rw [hg]; exact Nat.ne_of_gt (blk_lt (g := gb131) (o := .cells #[.int .i64 a1] 2 (0, 0)) (b1_ BK131.out)) : gb132 ≠ gb131)); clear BK130; clear BK131; clear HB; have BK130 := n0_; have BK131 := n1_; have HB := n2_; have BK132 := n3_; have GW132 := n4_; have GE132 := n5_; have NB130_132 := n6_; have NB132_130 := n7_; have NB131_132 := n8_; have NB132_131 := n9_; clear n0_ n1_ n2_ n3_ n4_ n5_ n6_ n7_ n8_ n9_; clear hb hbox hg; have hnb105 := NB130_131.out; have hnc105 := NB131_130.out; have hnb106 := NB130_132.out; have hnc106 := NB132_130.out; have hcz107_0 : w104.cell? ⟨gb130, 0, none⟩ = some (.slice A0_0 l0_0.length c0_0) := (blk_cell BK130.out 0).trans rfl; have hcz107_1 : w104.cell? ⟨gb130, 1, none⟩ = some (.slice A0_1 l0_1.length c0_1) := (blk_cell BK130.out 1).trans rfl; have hcz107_2 : w104.cell? ⟨gb130, 2, none⟩ = some (.slice A0_2 l0_2.length c0_2) := (blk_cell BK130.out 2).trans rfl; have hfz107_0 := blk_frozen BK130.out 0; have hfz107_1 := blk_frozen BK130.out 1; have hfz107_2 := blk_frozen BK130.out 2))
 go_at_call 42
 go_in
 try go_wp2_with (first | ((with_reducible refine gate_dst (N := 2) rfl ?_); (try (refine gate_guard (by rfl) ?_; dsimp only)); refine box_event ?hg (N := 2) ?hd (cs := #[.slice A0_0 l0_0.length c0_0, .slice A0_1 l0_1.length c0_1, .slice A0_2 l0_2.length c0_2]) (t := 27) ?hr ?_; (case hd => rfl); (case hg => rfl); (case hr => first | (go_simp; done) | (go_simp; rfl)); intro gb133 hg w108 hbox hb; have n0_ := Aside0.mk (blk_below (g := gb130) (o := .cells #[.slice A0_0 l0_0.length c0_0, .slice A0_1 l0_1.length c0_1, .slice A0_2 l0_2.length c0_2] 27 (0, 0)) (b1_ BK130.out) hb); have n1_ := Aside0.mk (blk_below (g := gb131) (o := .cells #[.int .i64 a1] 2 (0, 0)) (b1_ BK131.out) hb); have n2_ := Aside0.mk (blk_below (g := gb132) (o := .cells #[.slice none 0 0, .slice none 0 0, .slice none 0 0] 27 (0, 0)) (b1_ BK132.out) hb); have n3_ := Aside0.mk (below_step (y1_ HB.out) hb); have n4_ := Aside0.mk (hbox); have n5_ := Aside0.mk ((by rw [hg]; exact (below_size (y1_ HB.out)) : w.heap.size ≤ gb133)); have n6_ := Aside0.mk ((by rw [hg]; exact (below_size (y1_ HB.out)) : w.heap.size ≤ gb133)); have n7_ := Aside0.mk ((by rw [hg]; exact Nat.ne_of_lt (blk_lt (g := gb130) (o := .cells #[.slice A0_0 l0_0.length c0_0, .slice A0_1 l0_1.length c0_1, .slice A0_2 l0_2.length c0_2] 27 (0, 0)) (b1_ BK130.out)) : gb130 ≠ gb133)); have n8_ := Aside0.mk ((by rw [hg]; exact Nat.ne_of_gt (blk_lt (g := gb130) (o := .cells #[.slice A0_0 l0_0.length c0_0, .slice A0_1 l0_1.length c0_1, .slice A0_2 l0_2.length c0_2] 27 (0, 0)) (b1_ BK130.out)) : gb133 ≠ gb130)); have n9_ := Aside0.mk ((by rw [hg]; exact Nat.ne_of_lt (blk_lt (g := gb131) (o := .cells #[.int .i64 a1] 2 (0, 0)) (b1_ BK131.out)) : gb131 ≠ gb133)); have n10_ := Aside0.mk ((by rw [hg]; exact Nat.ne_of_gt (blk_lt (g := gb131) (o := .cells #[.int .i64 a1] 2 (0, 0)) (b1_ BK131.out)) : gb133 ≠ gb131)); have n11_ := Aside0.mk ((by rw [hg]; exact Nat.ne_of_lt (blk_lt (g := gb132) (o := .cells #[.slice none 0 0, .slice none 0 0, .slice none 0 0] 27 (0, 0)) (b1_ BK132.out)) : gb132 ≠ gb133)); have n12_ := Aside0.mk ((by rw [hg]; exact Nat.ne_of_gt (blk_lt (g := gb132) (o := .cells #[.slice none 0 0, .slice none 0 0, .slice none 0 0] 27 (0, 0)) (b1_ BK132.out)) : gb133 ≠ gb132)); clear BK130; clear BK131; clear BK132; clear HB; have BK130 := n0_; have BK131 := n1_; have BK132 := n2_; have HB := n3_; have BK133 := n4_; have GW133 := n5_; have GE133 := n6_; have NB130_133 := n7_; have NB133_130 := n8_; have NB131_133 := n9_; have NB133_131 := n10_; have NB132_133 := n11_; have NB133_132 := n12_; clear n0_ n1_ n2_ n3_ n4_ n5_ n6_ n7_ n8_ n9_ n10_ n11_ n12_; clear hb hbox hg) | ((with_reducible refine gate_dst (N := 4) rfl ?_); (try (refine gate_guard (by rfl) ?_; dsimp only)); refine box_event ?hg (N := 4) ?hd (cs := #[.slice none 0 0, .slice none 0 0, .slice none 0 0]) (t := 27) ?hr ?_; (case hd => rfl); (case hg => rfl); (case hr => first | (go_simp; done) | (go_simp; rfl)); intro gb134 hg w109 hbox hb; have n0_ := Aside0.mk (blk_below (g := gb130) (o := .cells #[.slice A0_0 l0_0.length c0_0, .slice A0_1 l0_1.length c0_1, .slice A0_2 l0_2.length c0_2] 27 (0, 0)) (b1_ BK130.out) hb); have n1_ := Aside0.mk (blk_below (g := gb131) (o := .cells #[.int .i64 a1] 2 (0, 0)) (b1_ BK131.out) hb); have n2_ := Aside0.mk (blk_below (g := gb132) (o := .cells #[.slice none 0 0, .slice none 0 0, .slice none 0 0] 27 (0, 0)) (b1_ BK132.out) hb); have n3_ := Aside0.mk (blk_below (g := gb133) (o := .cells #[.slice A0_0 l0_0.length c0_0, .slice A0_1 l0_1.length c0_1, .slice A0_2 l0_2.length c0_2] 27 (0, 0)) (b1_ BK133.out) hb); have n4_ := Aside0.mk (below_step (y1_ HB.out) hb); have n5_ := Aside0.mk (hbox); have n6_ := Aside0.mk ((by rw [hg]; exact (below_size (y1_ HB.out)) : w.heap.size ≤ gb134)); have n7_ := Aside0.mk ((by rw [hg]; exact (below_size (y1_ HB.out)) : w.heap.size ≤ gb134)); have n8_ := Aside0.mk ((by rw [hg]; exact Nat.ne_of_lt (blk_lt (g := gb130) (o := .cells #[.slice A0_0 l0_0.length c0_0, .slice A0_1 l0_1.length c0_1, .slice A0_2 l0_2.length c0_2] 27 (0, 0)) (b1_ BK130.out)) : gb130 ≠ gb134)); have n9_ := Aside0.mk ((by rw [hg]; exact Nat.ne_of_gt (blk_lt (g := gb130) (o := .cells #[.slice A0_0 l0_0.length c0_0, .slice A0_1 l0_1.length c0_1, .slice A0_2 l0_2.length c0_2] 27 (0, 0)) (b1_ BK130.out)) : gb134 ≠ gb130)); have n10_ := Aside0.mk ((by rw [hg]; exact Nat.ne_of_lt (blk_lt (g := gb131) (o := .cells #[.int .i64 a1] 2 (0, 0)) (b1_ BK131.out)) : gb131 ≠ gb134)); have n11_ := Aside0.mk ((by rw [hg]; exact Nat.ne_of_gt (blk_lt (g := gb131) (o := .cells #[.int .i64 a1] 2 (0, 0)) (b1_ BK131.out)) : gb134 ≠ gb131)); have n12_ := Aside0.mk ((by rw [hg]; exact Nat.ne_of_lt (blk_lt (g := gb132) (o := .cells #[.slice none 0 0, .slice none 0 0, .slice none 0 0] 27 (0, 0)) (b1_ BK132.out)) : gb132 ≠ gb134)); have n13_ := Aside0.mk ((by rw [hg]; exact Nat.ne_of_gt (blk_lt (g := gb132) (o := .cells #[.slice none 0 0, .slice none 0 0, .slice none 0 0] 27 (0, 0)) (b1_ BK132.out)) : gb134 ≠ gb132)); have n14_ := Aside0.mk ((by rw [hg]; exact Nat.ne_of_lt (blk_lt (g := gb133) (o := .cells #[.slice A0_0 l0_0.length c0_0, .slice A0_1 l0_1.length c0_1, .slice A0_2 l0_2.length c0_2] 27 (0, 0)) (b1_ BK133.out)) : gb133 ≠ gb134)); have n15_ := Aside0.mk ((by rw [hg]; exact Nat.ne_of_gt (blk_lt (g := gb133) (o := .cells #[.slice A0_0 l0_0.length c0_0, .slice A0_1 l0_1.length c0_1, .slice A0_2 l0_2.length c0_2] 27 (0, 0)) (b1_ BK133.out)) : gb134 ≠ gb133)); clear BK130; clear BK131; clear BK132; clear BK133; clear HB; have BK130 := n0_; have BK131 := n1_; have BK132 := n2_; have BK133 := n3_; have HB := n4_; have BK134 := n5_; have GW134 := n6_; have GE134 := n7_; have NB130_134 := n8_; have NB134_130 := n9_; have NB131_134 := n10_; have NB134_131 := n11_; have NB132_134 := n12_; have NB134_132 := n13_; have NB133_134 := n14_; have NB134_133 := n15_; clear n0_ n1_ n2_ n3_ n4_ n5_ n6_ n7_ n8_ n9_ n10_ n11_ n12_ n13_ n14_ n15_; clear hb hbox hg; have hnb110 := NB133_130.out; have hnc110 := NB130_133.out; have hnb111 := NB133_131.out; have hnc111 := NB131_133.out; have hnb112 := NB133_132.out; have hnc112 := NB132_133.out; have hnb113 := NB133_134.out; have hnc113 := NB134_133.out; have hcz114_0 : w109.cell? ⟨gb133, 0, none⟩ = some (.slice A0_0 l0_0.length c0_0) := (blk_cell BK133.out 0).trans rfl; have hcz114_1 : w109.cell? ⟨gb133, 1, none⟩ = some (.slice A0_1 l0_1.length c0_1) := (blk_cell BK133.out 1).trans rfl; have hcz114_2 : w109.cell? ⟨gb133, 2, none⟩ = some (.slice A0_2 l0_2.length c0_2) := (blk_cell BK133.out 2).trans rfl; have hfz114_0 := blk_frozen BK133.out 0; have hfz114_1 := blk_frozen BK133.out 1; have hfz114_2 := blk_frozen BK133.out 2) | ((with_reducible refine gate_callee (f := 19) rfl ?_); refine goesL_ (some 8) rfl rfl Try.func19 s2_ rfl #[.agg #[.slice A0_0 l0_0.length c0_0, .slice A0_1 l0_1.length c0_1, .slice A0_2 l0_2.length c0_2]] rfl s3_ ?_; (with_reducible refine (impl_ValidPresence.calls k _ _ l0_0 _ _ l0_1 _ _ l0_2 true _ ?side1 ?side2 ?side3 ?side4 ?side5 ?side6 A3.out).mono ?_); (case side1 => exact y2_ (Kd.C_below HR0_0.out HB.out)); (case side2 => exact HC0_0.out); (case side3 => exact y2_ (Kd.C_below HR0_1.out HB.out)); (case side4 => exact HC0_1.out); (case side5 => exact y2_ (Kd.C_below HR0_2.out HB.out)); (case side6 => exact HC0_2.out); rintro e w115 ⟨rfl, hb⟩; refine ⟨_, rfl, ?_⟩; have n0_ := Aside0.mk (blk_below (g := gb130) (o := .cells #[.slice A0_0 l0_0.length c0_0, .slice A0_1 l0_1.length c0_1, .slice A0_2 l0_2.length c0_2] 27 (0, 0)) (b1_ BK130.out) hb); have n1_ := Aside0.mk (blk_below (g := gb131) (o := .cells #[.int .i64 a1] 2 (0, 0)) (b1_ BK131.out) hb); have n2_ := Aside0.mk (blk_below (g := gb132) (o := .cells #[.slice none 0 0, .slice none 0 0, .slice none 0 0] 27 (0, 0)) (b1_ BK132.out) hb); have n3_ := Aside0.mk (blk_below (g := gb133) (o := .cells #[.slice A0_0 l0_0.length c0_0, .slice A0_1 l0_1.length c0_1, .slice A0_2 l0_2.length c0_2] 27 (0, 0)) (b1_ BK133.out) hb); have n4_ := Aside0.mk (blk_below (g := gb134) (o := .cells #[.slice none 0 0, .slice none 0 0, .slice none 0 0] 27 (0, 0)) (b1_ BK134.out) hb); have n5_ := Aside0.mk (below_step (y1_ HB.out) hb); clear BK130; clear BK131; clear BK132; clear BK133; clear BK134; clear HB; have BK130 := n0_; have BK131 := n1_; have BK132 := n2_; have BK133 := n3_; have BK134 := n4_; have HB := n5_; clear n0_ n1_ n2_ n3_ n4_ n5_; (try clear hb); (try clear hb2); (try clear hk); (try clear hi); have hcz116_0 : w115.cell? ⟨gb133, 0, none⟩ = some (.slice A0_0 l0_0.length c0_0) := (blk_cell BK133.out 0).trans rfl; have hcz116_1 : w115.cell? ⟨gb133, 1, none⟩ = some (.slice A0_1 l0_1.length c0_1) := (blk_cell BK133.out 1).trans rfl; have hcz116_2 : w115.cell? ⟨gb133, 2, none⟩ = some (.slice A0_2 l0_2.length c0_2) := (blk_cell BK133.out 2).trans rfl; have hfz116_0 := blk_frozen BK133.out 0; have hfz116_1 := blk_frozen BK133.out 1; have hfz116_2 := blk_frozen BK133.out 2) | ((with_reducible refine gate_callee (f := 90) rfl ?_); refine goesL_ (some 12) rfl rfl Try.func90 s2_ rfl #[.agg #[.slice A0_0 l0_0.length c0_0, .slice A0_1 l0_1.length c0_1, .slice A0_2 l0_2.length c0_2]] rfl s3_ ?_; (with_reducible refine (impl_clonePresence.calls _ _ l0_0 _ _ l0_1 _ _ l0_2 t136 t139 t142 _ ?side1 ?side2 ?side3 ?side4 ?side5 ?side6 A5.out).mono ?_); (case side1 => exact y2_ (Kd.C_below HR0_0.out HB.out)); (case side2 => exact HC0_0.out); (case side3 => exact y2_ (Kd.C_below HR0_1.out HB.out)); (case side4 => exact HC0_1.out); (case side5 => exact y2_ (Kd.C_below HR0_2.out HB.out)); (case side6 => exact HC0_2.out); rintro e w117 ⟨v137, v140, v143, rfl, ho0, ho1, ho2, hb⟩; refine ⟨_, rfl, ?_⟩; have n0_ := Aside0.mk (Kd.R_lower ho0 (below_size (y1_ HB.out))); have n1_ := Aside0.mk (Kd.R_lower ho1 (below_size (y1_ HB.out))); have n2_ := Aside0.mk (Kd.R_lower ho2 (below_size (y1_ HB.out))); have n3_ := Aside0.mk (blk_below (g := gb130) (o := .cells #[.slice A0_0 l0_0.length c0_0, .slice A0_1 l0_1.length c0_1, .slice A0_2 l0_2.length c0_2] 27 (0, 0)) (b1_ BK130.out) hb); have n4_ := Aside0.mk (blk_below (g := gb131) (o := .cells #[.int .i64 a1] 2 (0, 0)) (b1_ BK131.out) hb); have n5_ := Aside0.mk (blk_below (g := gb132) (o := .cells #[.slice none 0 0, .slice none 0 0, .slice none 0 0] 27 (0, 0)) (b1_ BK132.out) hb); have n6_ := Aside0.mk (blk_below (g := gb133) (o := .cells #[.slice A0_0 l0_0.length c0_0, .slice A0_1 l0_1.length c0_1, .slice A0_2 l0_2.length c0_2] 27 (0, 0)) (b1_ BK133.out) hb); have n7_ := Aside0.mk (blk_below (g := gb134) (o := .cells #[.slice none 0 0, .slice none 0 0, .slice none 0 0] 27 (0, 0)) (b1_ BK134.out) hb); have n8_ := Aside0.mk (below_step (y1_ HB.out) hb); clear BK130; clear BK131; clear BK132; clear BK133; clear BK134; clear HB; have HO138 := n0_; have HO141 := n1_; have HO144 := n2_; have BK130 := n3_; have BK131 := n4_; have BK132 := n5_; have BK133 := n6_; have BK134 := n7_; have HB := n8_; clear n0_ n1_ n2_ n3_ n4_ n5_ n6_ n7_ n8_; (try clear hb); (try clear hb2); (try clear hk); (try clear hi); (try clear ho0); (try clear ho1); (try clear ho2)) | ((with_reducible refine gate_dst (N := 6) rfl ?_); (try (refine gate_guard (by rfl) ?_; dsimp only)); refine box_event ?hg (N := 6) ?hd (cs := #[.slice none 0 0, .slice none 0 0, .slice none 0 0]) (t := 27) ?hr ?_; (case hd => rfl); (case hg => rfl); (case hr => first | (go_simp; done) | (go_simp; rfl)); intro gb145 hg w118 hbox hb; have n0_ := Aside0.mk (Kd.R_below (b2_ HO138.out) hb); have n1_ := Aside0.mk (Kd.R_below (b2_ HO141.out) hb); have n2_ := Aside0.mk (Kd.R_below (b2_ HO144.out) hb); have n3_ := Aside0.mk (blk_below (g := gb130) (o := .cells #[.slice A0_0 l0_0.length c0_0, .slice A0_1 l0_1.length c0_1, .slice A0_2 l0_2.length c0_2] 27 (0, 0)) (b1_ BK130.out) hb); have n4_ := Aside0.mk (blk_below (g := gb131) (o := .cells #[.int .i64 a1] 2 (0, 0)) (b1_ BK131.out) hb); have n5_ := Aside0.mk (blk_below (g := gb132) (o := .cells #[.slice none 0 0, .slice none 0 0, .slice none 0 0] 27 (0, 0)) (b1_ BK132.out) hb); have n6_ := Aside0.mk (blk_below (g := gb133) (o := .cells #[.slice A0_0 l0_0.length c0_0, .slice A0_1 l0_1.length c0_1, .slice A0_2 l0_2.length c0_2] 27 (0, 0)) (b1_ BK133.out) hb); have n7_ := Aside0.mk (blk_below (g := gb134) (o := .cells #[.slice none 0 0, .slice none 0 0, .slice none 0 0] 27 (0, 0)) (b1_ BK134.out) hb); have n8_ := Aside0.mk (below_step (y1_ HB.out) hb); have n9_ := Aside0.mk (hbox); have n10_ := Aside0.mk ((by rw [hg]; exact (below_size (y1_ HB.out)) : w.heap.size ≤ gb145)); have n11_ := Aside0.mk ((by rw [hg]; exact (below_size (y1_ HB.out)) : w.heap.size ≤ gb145)); have n12_ := Aside0.mk ((by rw [hg]; exact Nat.ne_of_lt (blk_lt (g := gb130) (o := .cells #[.slice A0_0 l0_0.length c0_0, .slice A0_1 l0_1.length c0_1, .slice A0_2 l0_2.length c0_2] 27 (0, 0)) (b1_ BK130.out)) : gb130 ≠ gb145)); have n13_ := Aside0.mk ((by rw [hg]; exact Nat.ne_of_gt (blk_lt (g := gb130) (o := .cells #[.slice A0_0 l0_0.length c0_0, .slice A0_1 l0_1.length c0_1, .slice A0_2 l0_2.length c0_2] 27 (0, 0)) (b1_ BK130.out)) : gb145 ≠ gb130)); have n14_ := Aside0.mk ((by rw [hg]; exact Nat.ne_of_lt (blk_lt (g := gb131) (o := .cells #[.int .i64 a1] 2 (0, 0)) (b1_ BK131.out)) : gb131 ≠ gb145)); have n15_ := Aside0.mk ((by rw [hg]; exact Nat.ne_of_gt (blk_lt (g := gb131) (o := .cells #[.int .i64 a1] 2 (0, 0)) (b1_ BK131.out)) : gb145 ≠ gb131)); have n16_ := Aside0.mk ((by rw [hg]; exact Nat.ne_of_lt (blk_lt (g := gb132) (o := .cells #[.slice none 0 0, .slice none 0 0, .slice none 0 0] 27 (0, 0)) (b1_ BK132.out)) : gb132 ≠ gb145)); have n17_ := Aside0.mk ((by rw [hg]; exact Nat.ne_of_gt (blk_lt (g := gb132) (o := .cells #[.slice none 0 0, .slice none 0 0, .slice none 0 0] 27 (0, 0)) (b1_ BK132.out)) : gb145 ≠ gb132)); have n18_ := Aside0.mk ((by rw [hg]; exact Nat.ne_of_lt (blk_lt (g := gb133) (o := .cells #[.slice A0_0 l0_0.length c0_0, .slice A0_1 l0_1.length c0_1, .slice A0_2 l0_2.length c0_2] 27 (0, 0)) (b1_ BK133.out)) : gb133 ≠ gb145)); have n19_ := Aside0.mk ((by rw [hg]; exact Nat.ne_of_gt (blk_lt (g := gb133) (o := .cells #[.slice A0_0 l0_0.length c0_0, .slice A0_1 l0_1.length c0_1, .slice A0_2 l0_2.length c0_2] 27 (0, 0)) (b1_ BK133.out)) : gb145 ≠ gb133)); have n20_ := Aside0.mk ((by rw [hg]; exact Nat.ne_of_lt (blk_lt (g := gb134) (o := .cells #[.slice none 0 0, .slice none 0 0, .slice none 0 0] 27 (0, 0)) (b1_ BK134.out)) : gb134 ≠ gb145)); have n21_ := Aside0.mk ((by rw [hg]; exact Nat.ne_of_gt (blk_lt (g := gb134) (o := .cells #[.slice none 0 0, .slice none 0 0, .slice none 0 0] 27 (0, 0)) (b1_ BK134.out)) : gb145 ≠ gb134)); clear HO138; clear HO141; clear HO144; clear BK130; clear BK131; clear BK132; clear BK133; clear BK134; clear HB; have HO138 := n0_; have HO141 := n1_; have HO144 := n2_; have BK130 := n3_; have BK131 := n4_; have BK132 := n5_; have BK133 := n6_; have BK134 := n7_; have HB := n8_; have BK145 := n9_; have GW145 := n10_; have GE145 := n11_; have NB130_145 := n12_; have NB145_130 := n13_; have NB131_145 := n14_; have NB145_131 := n15_; have NB132_145 := n16_; have NB145_132 := n17_; have NB133_145 := n18_; have NB145_133 := n19_; have NB134_145 := n20_; have NB145_134 := n21_; clear n0_ n1_ n2_ n3_ n4_ n5_ n6_ n7_ n8_ n9_ n10_ n11_ n12_ n13_ n14_ n15_ n16_ n17_ n18_ n19_ n20_ n21_; clear hb hbox hg; obtain ⟨Ao119, co119, eo119⟩ := Kd.R_slice HO138.out; subst eo119; have hnb120 := NB145_130.out; have hnc120 := NB130_145.out; have hnb121 := NB145_131.out; have hnc121 := NB131_145.out; have hnb122 := NB145_132.out; have hnc122 := NB132_145.out; have hnb123 := NB145_133.out; have hnc123 := NB133_145.out; have hnb124 := NB145_134.out; have hnc124 := NB134_145.out; have hcz125_0 : w118.cell? ⟨gb145, 0, none⟩ = some (.slice none 0 0) := (blk_cell BK145.out 0).trans rfl; have hcz125_1 : w118.cell? ⟨gb145, 1, none⟩ = some (.slice none 0 0) := (blk_cell BK145.out 1).trans rfl; have hcz125_2 : w118.cell? ⟨gb145, 2, none⟩ = some (.slice none 0 0) := (blk_cell BK145.out 2).trans rfl; have hfz125_0 := blk_frozen BK145.out 0; have hfz125_1 := blk_frozen BK145.out 1; have hfz125_2 := blk_frozen BK145.out 2; obtain ⟨Ao126, co126, eo126⟩ := Kd.R_slice HO141.out; subst eo126; obtain ⟨Ao127, co127, eo127⟩ := Kd.R_slice HO144.out; subst eo127))
 go_at_call 51
 go_in
 try go_wp2_with (fail)
 have n0_ : Aside0 (Kd.R k63 63 (((w118.setCell ⟨gb145, 0, none⟩ (.slice Ao119 t136.length co119)).setCell ⟨gb145, 1, none⟩ (.slice Ao126 t139.length co126)).setCell ⟨gb145, 2, none⟩ (.slice Ao127 t142.length co127)) w.heap.size (fun k_ => some k_ ≠ (.slice Ao126 t139.length co126 : Value).ownBlock) (.slice Ao119 t136.length co119) t136) := ⟨by (with_reducible repeat (first | apply Kd.R_alloc | apply Kd.R_drewN | apply Kd.R_drew)); exact Kd.R_mono (Kd.R_far3 (g := gb145) (Kd.R_types HO138.out BK145.out (by decide)) (fun _ hk => hk.2)) (fun _ hk => hk.1)⟩
 have n1_ : Aside0 (Kd.R k63 63 (((w118.setCell ⟨gb145, 0, none⟩ (.slice Ao119 t136.length co119)).setCell ⟨gb145, 1, none⟩ (.slice Ao126 t139.length co126)).setCell ⟨gb145, 2, none⟩ (.slice Ao127 t142.length co127)) w.heap.size (fun k_ => some k_ ≠ (.slice Ao119 t136.length co119 : Value).ownBlock) (.slice Ao126 t139.length co126) t139) := ⟨by (with_reducible repeat (first | apply Kd.R_alloc | apply Kd.R_drewN | apply Kd.R_drew)); exact Kd.R_mono (Kd.R_far3 (g := gb145) (Kd.R_types HO141.out BK145.out (by decide)) (fun _ hk => hk.2)) (fun _ hk => hk.1)⟩
 have n2_ : Aside0 (Kd.R k73 73 (((w118.setCell ⟨gb145, 0, none⟩ (.slice Ao119 t136.length co119)).setCell ⟨gb145, 1, none⟩ (.slice Ao126 t139.length co126)).setCell ⟨gb145, 2, none⟩ (.slice Ao127 t142.length co127)) w.heap.size (fun _ => True) (.slice Ao127 t142.length co127) t142) := ⟨by (with_reducible repeat (first | apply Kd.R_alloc | apply Kd.R_drewN | apply Kd.R_drew)); exact Kd.R_mono (Kd.R_far3 (g := gb145) (Kd.R_types HO144.out BK145.out (by decide)) (fun _ hk => hk.2)) (fun _ hk => trivial)⟩
 have n3_ : Aside0 ((((w118.setCell ⟨gb145, 0, none⟩ (.slice Ao119 t136.length co119)).setCell ⟨gb145, 1, none⟩ (.slice Ao126 t139.length co126)).setCell ⟨gb145, 2, none⟩ (.slice Ao127 t142.length co127)).heap[gb130]? = some (.cells #[.slice A0_0 l0_0.length c0_0, .slice A0_1 l0_1.length c0_1, .slice A0_2 l0_2.length c0_2] 27 (0, 0))) := ⟨by (with_reducible repeat (first | refine blk_drewN ?_ _ | refine blk_drew ?_ | refine blk_alloc ?_ _)); refine blk_far3 ?_ NB130_145.out; (with_reducible repeat (first | refine blk_drewN ?_ _ | refine blk_drew ?_ | refine blk_alloc ?_ _)); exact BK130.out⟩
 have n4_ : Aside0 ((((w118.setCell ⟨gb145, 0, none⟩ (.slice Ao119 t136.length co119)).setCell ⟨gb145, 1, none⟩ (.slice Ao126 t139.length co126)).setCell ⟨gb145, 2, none⟩ (.slice Ao127 t142.length co127)).heap[gb131]? = some (.cells #[.int .i64 a1] 2 (0, 0))) := ⟨by (with_reducible repeat (first | refine blk_drewN ?_ _ | refine blk_drew ?_ | refine blk_alloc ?_ _)); refine blk_far3 ?_ NB131_145.out; (with_reducible repeat (first | refine blk_drewN ?_ _ | refine blk_drew ?_ | refine blk_alloc ?_ _)); exact BK131.out⟩
 have n5_ : Aside0 ((((w118.setCell ⟨gb145, 0, none⟩ (.slice Ao119 t136.length co119)).setCell ⟨gb145, 1, none⟩ (.slice Ao126 t139.length co126)).setCell ⟨gb145, 2, none⟩ (.slice Ao127 t142.length co127)).heap[gb132]? = some (.cells #[.slice none 0 0, .slice none 0 0, .slice none 0 0] 27 (0, 0))) := ⟨by (with_reducible repeat (first | refine blk_drewN ?_ _ | refine blk_drew ?_ | refine blk_alloc ?_ _)); refine blk_far3 ?_ NB132_145.out; (with_reducible repeat (first | refine blk_drewN ?_ _ | refine blk_drew ?_ | refine blk_alloc ?_ _)); exact BK132.out⟩
 have n6_ : Aside0 ((((w118.setCell ⟨gb145, 0, none⟩ (.slice Ao119 t136.length co119)).setCell ⟨gb145, 1, none⟩ (.slice Ao126 t139.length co126)).setCell ⟨gb145, 2, none⟩ (.slice Ao127 t142.length co127)).heap[gb133]? = some (.cells #[.slice A0_0 l0_0.length c0_0, .slice A0_1 l0_1.length c0_1, .slice A0_2 l0_2.length c0_2] 27 (0, 0))) := ⟨by (with_reducible repeat (first | refine blk_drewN ?_ _ | refine blk_drew ?_ | refine blk_alloc ?_ _)); refine blk_far3 ?_ NB133_145.out; (with_reducible repeat (first | refine blk_drewN ?_ _ | refine blk_drew ?_ | refine blk_alloc ?_ _)); exact BK133.out⟩
 have n7_ : Aside0 ((((w118.setCell ⟨gb145, 0, none⟩ (.slice Ao119 t136.length co119)).setCell ⟨gb145, 1, none⟩ (.slice Ao126 t139.length co126)).setCell ⟨gb145, 2, none⟩ (.slice Ao127 t142.length co127)).heap[gb134]? = some (.cells #[.slice none 0 0, .slice none 0 0, .slice none 0 0] 27 (0, 0))) := ⟨by (with_reducible repeat (first | refine blk_drewN ?_ _ | refine blk_drew ?_ | refine blk_alloc ?_ _)); refine blk_far3 ?_ NB134_145.out; (with_reducible repeat (first | refine blk_drewN ?_ _ | refine blk_drew ?_ | refine blk_alloc ?_ _)); exact BK134.out⟩
 have n8_ : Aside0 ((((w118.setCell ⟨gb145, 0, none⟩ (.slice Ao119 t136.length co119)).setCell ⟨gb145, 1, none⟩ (.slice Ao126 t139.length co126)).setCell ⟨gb145, 2, none⟩ (.slice Ao127 t142.length co127)).heap[gb145]? = some (.cells #[.slice Ao119 t136.length co119, .slice Ao126 t139.length co126, .slice Ao127 t142.length co127] 27 (0, 0))) := ⟨by (with_reducible repeat (first | refine blk_drewN ?_ _ | refine blk_drew ?_ | refine blk_alloc ?_ _)); refine blk_put3 (cs := #[.slice none 0 0, .slice none 0 0, .slice none 0 0]) ?_ rfl; (with_reducible repeat (first | refine blk_drewN ?_ _ | refine blk_drew ?_ | refine blk_alloc ?_ _)); exact BK145.out⟩
 have n9_ : Aside0 (Below w.heap.size w (((w118.setCell ⟨gb145, 0, none⟩ (.slice Ao119 t136.length co119)).setCell ⟨gb145, 1, none⟩ (.slice Ao126 t139.length co126)).setCell ⟨gb145, 2, none⟩ (.slice Ao127 t142.length co127))) := ⟨by repeat (first | (with_reducible first | exact HB.out | apply below_alloc | apply pw_below_drewN | apply below_drew1 | refine below_set ?_ GE145.out) | exact HB.out)⟩
 (try clear HO138)
 (try clear HO141)
 (try clear HO144)
 (try clear BK130)
 (try clear BK131)
 (try clear BK132)
 (try clear BK133)
 (try clear BK134)
 (try clear BK145)
 (try clear HB)
 generalize (((w118.setCell ⟨gb145, 0, none⟩ (.slice Ao119 t136.length co119)).setCell ⟨gb145, 1, none⟩ (.slice Ao126 t139.length co126)).setCell ⟨gb145, 2, none⟩ (.slice Ao127 t142.length co127)) = w128 at n0_ n1_ n2_ n3_ n4_ n5_ n6_ n7_ n8_ n9_ ⊢
 have HO138 := n0_
 have HO141 := n1_
 have HO144 := n2_
 have BK130 := n3_
 have BK131 := n4_
 have BK132 := n5_
 have BK133 := n6_
 have BK134 := n7_
 have BK145 := n8_
 have HB := n9_
 clear n0_ n1_ n2_ n3_ n4_ n5_ n6_ n7_ n8_ n9_
 have n0_ := Aside0.mk (Kd.R_drew HO138.out)
 have n1_ := Aside0.mk (Kd.R_drew HO141.out)
 have n2_ := Aside0.mk (Kd.R_drew HO144.out)
 have n3_ := Aside0.mk (blk_drew BK130.out)
 have n4_ := Aside0.mk (blk_drew BK131.out)
 have n5_ := Aside0.mk (blk_drew BK132.out)
 have n6_ := Aside0.mk (blk_drew BK133.out)
 have n7_ := Aside0.mk (blk_drew BK134.out)
 have n8_ := Aside0.mk (blk_drew BK145.out)
 have n9_ := Aside0.mk (below_drew1 HB.out)
 clear HO138
 clear HO141
 clear HO144
 clear BK130
 clear BK131
 clear BK132
 clear BK133
 clear BK134
 clear BK145
 clear HB
 have HO138 := n0_
 have HO141 := n1_
 have HO144 := n2_
 have BK130 := n3_
 have BK131 := n4_
 have BK132 := n5_
 have BK133 := n6_
 have BK134 := n7_
 have BK145 := n8_
 have HB := n9_
 clear n0_ n1_ n2_ n3_ n4_ n5_ n6_ n7_ n8_ n9_
 refine start_ (n := 12) (S := fun w' => w'.cell? ⟨gb145, 0, none⟩ = some (.slice Ao119 t136.length co119) ∧ w'.cell? ⟨gb145, 1, none⟩ = some (.slice Ao126 t139.length co126) ∧ w'.cell? ⟨gb145, 2, none⟩ = some (.slice Ao127 t142.length co127)) (ds := []) m0_ s2_ rfl rfl ⟨(blk_cell BK145.out 0).trans rfl, (blk_cell BK145.out 1).trans rfl, (blk_cell BK145.out 2).trans rfl⟩ (fun hHeld => ?_); refine with_tabW impl_LeaveNow.g51.tab1 impl_LeaveNow.g51.bits1 (fun HT_ HW_ => ?_)
 generalize w128.drew = w129 at HO138 HO141 HO144 BK130 BK131 BK132 BK133 BK134 BK145 HB hHeld ⊢
 refine pu_ 0 6 m1_ (any_of HT_.out s2_) ?_
 refine pu_ 1 7 m2_ (any_of HT_.out s2_) ?_
 refine pu_ 2 8 m3_ (any_of HT_.out s2_) ?_
 refine pu_ 5 11 m4_ (any_of HT_.out s2_) ?_
 refine pu_ 6 12 m5_ (any_of HT_.out s2_) ?_
 refine pu_ 7 13 m6_ (any_of HT_.out s2_) ?_
 refine take_ (i := 3) (N := some 9) (v := ?_) (a' := ?_) m7_ rfl rfl (take_ofW HT_.out HW_.out s2_) (fun _ _ _ h => h) (Or.inl ⟨by rfl, ?_⟩) hHeld ?_ ?_
 rotate_left
 {
 rintro w' ⟨s0, s1, s2⟩
 go_simp
 with_reducible rfl}
 rotate_left
 · exact p1_
 refine pu_ 4 10 m8_ (any_of HT_.out s2_) ?_
 refine take_ (i := 8) (N := some 14) (v := ?_) (a' := ?_) m9_ rfl rfl (take_ofW HT_.out HW_.out s2_) (fun _ _ _ h => h) (Or.inl ⟨by rfl, ?_⟩) hHeld ?_ ?_
 rotate_left
 {
 rintro w' ⟨s0, s1, s2⟩
 go_simp
 with_reducible rfl}
 rotate_left
 · exact p1_
 refine pu_ 9 15 m10_ (any_of HT_.out s2_) ?_
 refine pu_ 10 16 m11_ (any_of HT_.out s2_) ?_
 refine pu_ 11 4 m12_ (any_of HT_.out s2_) ?_
 refine done_ (done_of HT_.out s2_) ?_
 try go_wp2_with (fail)
 have n0_ := Aside0.mk (Kd.R_drew HO138.out)
 have n1_ := Aside0.mk (Kd.R_drew HO141.out)
 have n2_ := Aside0.mk (Kd.R_drew HO144.out)
 have n3_ := Aside0.mk (blk_drew BK130.out)
 have n4_ := Aside0.mk (blk_drew BK131.out)
 have n5_ := Aside0.mk (blk_drew BK132.out)
 have n6_ := Aside0.mk (blk_drew BK133.out)
 have n7_ := Aside0.mk (blk_drew BK134.out)
 have n8_ := Aside0.mk (blk_drew BK145.out)
 have n9_ := Aside0.mk (below_drew1 HB.out)
 clear HO138
 clear HO141
 clear HO144
 clear BK130
 clear BK131
 clear BK132
 clear BK133
 clear BK134
 clear BK145
 clear HB
 have HO138 := n0_
 have HO141 := n1_
 have HO144 := n2_
 have BK130 := n3_
 have BK131 := n4_
 have BK132 := n5_
 have BK133 := n6_
 have BK134 := n7_
 have BK145 := n8_
 have HB := n9_
 clear n0_ n1_ n2_ n3_ n4_ n5_ n6_ n7_ n8_ n9_
 refine start_ (n := 20) (S := fun w' => w'.cell? ⟨gb145, 0, none⟩ = some (.slice Ao119 t136.length co119) ∧ w'.cell? ⟨gb145, 1, none⟩ = some (.slice Ao126 t139.length co126) ∧ w'.cell? ⟨gb145, 2, none⟩ = some (.slice Ao127 t142.length co127)) (ds := [16, 19]) m13_ s2_ rfl rfl ⟨(blk_cell BK145.out 0).trans rfl, (blk_cell BK145.out 1).trans rfl, (blk_cell BK145.out 2).trans rfl⟩ (fun hHeld => ?_); refine with_tabW impl_LeaveNow.g51.tab3 impl_LeaveNow.g51.bits3 (fun HT_ HW_ => ?_)
 generalize w129.drew = w130 at HO138 HO141 HO144 BK130 BK131 BK132 BK133 BK134 BK145 HB hHeld ⊢
 refine pu_ 0 18 m14_ (any_of HT_.out s2_) ?_
 refine pu_ 1 19 m15_ (any_of HT_.out s2_) ?_
 refine pu_ 2 20 m16_ (any_of HT_.out s2_) ?_
 refine pu_ 3 21 m17_ (any_of HT_.out s2_) ?_
 refine pu_ 4 22 m18_ (any_of HT_.out s2_) ?_
 refine pu_ 6 24 m19_ (any_of HT_.out s2_) ?_
 refine pu_ 8 26 m20_ (any_of HT_.out s2_) ?_
 refine pu_ 9 27 m21_ (any_of HT_.out s2_) ?_
 refine pu_ 10 28 m22_ (any_of HT_.out s2_) ?_
 refine pu_ 12 30 m23_ (any_of HT_.out s2_) ?_
 refine take_ (i := 5) (N := some 23) (v := ?_) (a' := ?_) m24_ rfl rfl (take_ofW HT_.out HW_.out s2_) (fun _ _ _ h => h) (Or.inl ⟨by rfl, ?_⟩) hHeld ?_ ?_
 rotate_left
 {
 rintro w' ⟨s0, s1, s2⟩
 go_simp
 with_reducible rfl}
 rotate_left
 · exact p1_
 refine take_ (i := 11) (N := some 29) (v := ?_) (a' := ?_) m25_ rfl rfl (take_ofW HT_.out HW_.out s2_) (fun _ _ _ h => h) (Or.inl ⟨by rfl, ?_⟩) hHeld ?_ ?_
 rotate_left
 {
 rintro w' ⟨s0, s1, s2⟩
 go_simp
 with_reducible rfl}
 rotate_left
 · exact p1_
 refine one_ (i := 7) (N := some 25) m26_ rfl rfl (one_of HT_.out s2_) (by decide) (fun K hK => ?_)
 refine goes_ Try.func53 s2_ rfl #[.slice Ao119 t136.length co119, .func (.func 52) #[] #[.pointer (some ⟨gb131, 0, none⟩)]] (by rfl) rfl rfl s3_ ?_
 with_reducible refine (impl_dropLeases_v0.calls k (fun k_ => some k_ = (.slice Ao119 t136.length co119 : Value).ownBlock) (.slice Ao119 t136.length co119) t136 gb131 a1 t146 w _ ?side1 ?side2 ?side3 A6.out).mono ?_
 (case side1 => repeat (first | (with_reducible first | exact HB.out | apply below_alloc | apply pw_below_drewN | apply below_drew1) | exact HB.out))
 (case side2 => exact (b1_ BK131.out))
 (case side3 => exact Kd.R_tight rfl HO138.out)
 rintro e w131 ⟨v147, rfl, ho0, hb, hkp⟩
 refine ⟨_, rfl, ?_⟩
 have n0_ := Aside0.mk (blk_kept (b1_ BK130.out) hkp (fun hs_ => (fun e_ => (Kd.R_ne HO138.out BK130.out (by decide)) e_) hs_))
 have n1_ := Aside0.mk (blk_kept (b1_ BK131.out) hkp (fun hs_ => (fun e_ => (Kd.R_ne HO138.out BK131.out (by decide)) e_) hs_))
 have n2_ := Aside0.mk (blk_kept (b1_ BK132.out) hkp (fun hs_ => (fun e_ => (Kd.R_ne HO138.out BK132.out (by decide)) e_) hs_))
 have n3_ := Aside0.mk (blk_kept (b1_ BK133.out) hkp (fun hs_ => (fun e_ => (Kd.R_ne HO138.out BK133.out (by decide)) e_) hs_))
 have n4_ := Aside0.mk (blk_kept (b1_ BK134.out) hkp (fun hs_ => (fun e_ => (Kd.R_ne HO138.out BK134.out (by decide)) e_) hs_))
 have n5_ := Aside0.mk (Kd.R_mono (ok' := fun k_ => some k_ ≠ (v147 : Value).ownBlock) (Kd.R_keptB (HO141.out) hkp (fun k_ hk_ hs_ => (hk_) hs_)) (fun k_ hk_ => fun e_ => Or.elim (ho0.1 k_ e_.symm) (fun hs_ => hk_.2.1 hs_) (fun hn_ => Nat.not_le.2 hk_.2.2 hn_)))
 have n6_ := Aside0.mk (Kd.R_mono (ok' := fun k_ => True) (Kd.R_keptB ((Kd.R_apart' HO144.out (Kd.R_typed HO138.out) (by decide))) hkp (fun k_ hk_ hs_ => (hk_.2) hs_)) (fun k_ hk_ => trivial))
 have n7_ := Aside0.mk (blk_kept (b1_ BK145.out) hkp (fun hs_ => (fun e_ => (Kd.R_ne HO138.out BK145.out (by decide)) e_) hs_))
 have n8_ := Aside0.mk (Kd.R_mono (ok' := fun k_ => some k_ ≠ (.slice Ao126 t139.length co126 : Value).ownBlock) ho0 (fun k_ hk_ => Or.elim hk_ (fun hs_ => fun e_ => (((HO141.out).1 k_ e_.symm)) hs_) (fun hn_ => (Kd.fresh' (Kd.R_lt (b2_ HO141.out)) k_ hn_))))
 have n9_ := Aside0.mk (hb)
 clear BK130
 clear BK131
 clear BK132
 clear BK133
 clear BK134
 clear HO141
 clear HO144
 clear BK145
 clear HB
 clear HO138
 have BK130 := n0_
 have BK131 := n1_
 have BK132 := n2_
 have BK133 := n3_
 have BK134 := n4_
 have HO141 := n5_
 have HO144 := n6_
 have BK145 := n7_
 have HO148 := n8_
 have HB := n9_
 clear n0_ n1_ n2_ n3_ n4_ n5_ n6_ n7_ n8_ n9_
 (try clear hb)
 (try clear hkp)
 (try clear ho0)
 refine hK.out _ _ ⟨(blk_cell BK145.out 0).trans rfl, (blk_cell BK145.out 1).trans rfl, (blk_cell BK145.out 2).trans rfl⟩ (fun hHeld => ?_)
 clear hK K
 refine norm_ (a' := ?_) ?_ ?_
 rotate_left
 {
 show Act.put _ (some 25) _ = _
 simp only [Act.put, List.setIfInBounds_toArray, List.set_cons_zero, List.set_cons_succ, i64_w, i32_w]
 rfl}
 refine one_ (i := 13) (N := some 31) m27_ rfl rfl (one_of HT_.out s2_) (by decide) (fun K hK => ?_)
 refine goes_ Try.func53 s2_ rfl #[.slice Ao126 t139.length co126, .func (.func 52) #[] #[.pointer (some ⟨gb131, 0, none⟩)]] (by rfl) rfl rfl s3_ ?_
 with_reducible refine (impl_dropLeases_v0.calls k (fun k_ => some k_ = (.slice Ao126 t139.length co126 : Value).ownBlock) (.slice Ao126 t139.length co126) t139 gb131 a1 t149 w _ ?side1 ?side2 ?side3 A7.out).mono ?_
 (case side1 => repeat (first | (with_reducible first | exact HB.out | apply below_alloc | apply pw_below_drewN | apply below_drew1) | exact HB.out))
 (case side2 => exact (b1_ BK131.out))
 (case side3 => exact Kd.R_tight rfl HO141.out)
 rintro e w132 ⟨v150, rfl, ho0, hb, hkp⟩
 refine ⟨_, rfl, ?_⟩
 have n0_ := Aside0.mk (blk_kept (b1_ BK130.out) hkp (fun hs_ => (fun e_ => (Kd.R_ne HO141.out BK130.out (by decide)) e_) hs_))
 have n1_ := Aside0.mk (blk_kept (b1_ BK131.out) hkp (fun hs_ => (fun e_ => (Kd.R_ne HO141.out BK131.out (by decide)) e_) hs_))
 have n2_ := Aside0.mk (blk_kept (b1_ BK132.out) hkp (fun hs_ => (fun e_ => (Kd.R_ne HO141.out BK132.out (by decide)) e_) hs_))
 have n3_ := Aside0.mk (blk_kept (b1_ BK133.out) hkp (fun hs_ => (fun e_ => (Kd.R_ne HO141.out BK133.out (by decide)) e_) hs_))
 have n4_ := Aside0.mk (blk_kept (b1_ BK134.out) hkp (fun hs_ => (fun e_ => (Kd.R_ne HO141.out BK134.out (by decide)) e_) hs_))
 have n5_ := Aside0.mk (Kd.R_mono (ok' := fun k_ => True) (Kd.R_keptB ((Kd.R_apart' HO144.out (Kd.R_typed HO141.out) (by decide))) hkp (fun k_ hk_ hs_ => (hk_.2) hs_)) (fun k_ hk_ => trivial))
 have n6_ := Aside0.mk (blk_kept (b1_ BK145.out) hkp (fun hs_ => (fun e_ => (Kd.R_ne HO141.out BK145.out (by decide)) e_) hs_))
 have n7_ := Aside0.mk (Kd.R_mono (ok' := fun k_ => some k_ ≠ (v150 : Value).ownBlock) (Kd.R_keptB (HO148.out) hkp (fun k_ hk_ hs_ => (hk_) hs_)) (fun k_ hk_ => fun e_ => Or.elim (ho0.1 k_ e_.symm) (fun hs_ => hk_.2.1 hs_) (fun hn_ => Nat.not_le.2 hk_.2.2 hn_)))
 have n8_ := Aside0.mk (Kd.R_mono (ok' := fun k_ => some k_ ≠ (v147 : Value).ownBlock) ho0 (fun k_ hk_ => Or.elim hk_ (fun hs_ => fun e_ => (((HO148.out).1 k_ e_.symm)) hs_) (fun hn_ => (Kd.fresh' (Kd.R_lt (b2_ HO148.out)) k_ hn_))))
 have n9_ := Aside0.mk (hb)
 clear BK130
 clear BK131
 clear BK132
 clear BK133
 clear BK134
 clear HO144
 clear BK145
 clear HO148
 clear HB
 clear HO141
 have BK130 := n0_
 have BK131 := n1_
 have BK132 := n2_
 have BK133 := n3_
 have BK134 := n4_
 have HO144 := n5_
 have BK145 := n6_
 have HO148 := n7_
 have HO151 := n8_
 have HB := n9_
 clear n0_ n1_ n2_ n3_ n4_ n5_ n6_ n7_ n8_ n9_
 (try clear hb)
 (try clear hkp)
 (try clear ho0)
 obtain ⟨Ao133, co133, eo133⟩ := Kd.R_slice HO148.out
 (first | subst eo133 | (injection eo133 with f1_ f2_ f3_; have f4_ := f1_.symm; have f5_ := f3_.symm; clear f1_ f2_ f3_; subst f4_; subst f5_))
 obtain ⟨Ao135, co135, eo135⟩ := Kd.R_slice HO151.out
 (first | subst eo135 | (injection eo135 with f1_ f2_ f3_; have f4_ := f1_.symm; have f5_ := f3_.symm; clear f1_ f2_ f3_; subst f4_; subst f5_))
 refine hK.out _ _ ⟨(blk_cell BK145.out 0).trans rfl, (blk_cell BK145.out 1).trans rfl, (blk_cell BK145.out 2).trans rfl⟩ (fun hHeld => ?_)
 clear hK K
 refine norm_ (a' := ?_) ?_ ?_
 rotate_left
 {
 show Act.put _ (some 31) _ = _
 simp only [Act.put, List.setIfInBounds_toArray, List.set_cons_zero, List.set_cons_succ, i64_w, i32_w]
 rfl}
 refine pu_ 14 32 m28_ (any_of HT_.out s2_) ?_
 refine pu_ 15 33 m29_ (any_of HT_.out s2_) ?_
 refine last_ (i := 16) (N := none) m30_ rfl rfl (one_of HT_.out s2_) (by decide) (fun K hK => ?_)
 have hs134 : w132.cell? ⟨gb145, 0, none⟩ = some (.slice Ao119 t136.length co119) := (blk_cell BK145.out 0).trans rfl
 have hfs134 := blk_frozen BK145.out 0
 have hns134_0 := NB130_145.out
 have hns134_1 := NB131_145.out
 have hns134_2 := NB132_145.out
 have hns134_3 := NB133_145.out
 have hns134_4 := NB134_145.out
 have hms134_0 := NB145_130.out
 have hms134_1 := NB145_131.out
 have hms134_2 := NB145_132.out
 have hms134_3 := NB145_133.out
 have hms134_4 := NB145_134.out
 refine skip_ (w1 := ?_) (by rfl) rfl ?_ ?_
 rotate_left
 {
 go_simp
 rfl}
 refine hK.out _ _ ?_
 clear hK K
 refine pu_ 17 34 m31_ (any_of HT_.out s2_) ?_
 refine pu_ 18 35 m32_ (any_of HT_.out s2_) ?_
 refine last_ (i := 19) (N := none) m33_ rfl rfl (one_of HT_.out s2_) (by decide) (fun K hK => ?_)
 have hs136 : w132.cell? ⟨gb145, 1, none⟩ = some (.slice Ao126 t139.length co126) := (blk_cell BK145.out 1).trans rfl
 have hfs136 := blk_frozen BK145.out 1
 have hns136_0 := NB130_145.out
 have hns136_1 := NB131_145.out
 have hns136_2 := NB132_145.out
 have hns136_3 := NB133_145.out
 have hns136_4 := NB134_145.out
 have hms136_0 := NB145_130.out
 have hms136_1 := NB145_131.out
 have hms136_2 := NB145_132.out
 have hms136_3 := NB145_133.out
 have hms136_4 := NB145_134.out
 refine skip_ (w1 := ?_) (by rfl) rfl ?_ ?_
 rotate_left
 {
 go_simp
 rfl}
 refine hK.out _ _ ?_
 clear hK K
 refine done_ (done_of HT_.out s2_) ?_
 try go_wp2_with (fail)
 have n0_ : Aside0 (Kd.R k73 73 ((w132.setCell ⟨gb145, 0, none⟩ (.slice Ao133 t146.length co133)).setCell ⟨gb145, 1, none⟩ (.slice Ao135 t149.length co135)) w.heap.size (fun _ => True) (.slice Ao127 t142.length co127) t142) := ⟨by (with_reducible repeat (first | apply Kd.R_alloc | apply Kd.R_drewN | apply Kd.R_drew)); exact Kd.R_mono (Kd.R_far (p := ⟨gb145, 1, none⟩) (Kd.R_far (p := ⟨gb145, 0, none⟩) (Kd.R_types HO144.out BK145.out (by decide)) (fun _ hk => hk.2) (.slice Ao133 t146.length co133)) (fun _ hk => hk.2) (.slice Ao135 t149.length co135)) (fun _ hk => trivial)⟩
 have n1_ : Aside0 (Kd.R k63 63 ((w132.setCell ⟨gb145, 0, none⟩ (.slice Ao133 t146.length co133)).setCell ⟨gb145, 1, none⟩ (.slice Ao135 t149.length co135)) w.heap.size (fun k_ => some k_ ≠ (.slice Ao135 t149.length co135 : Value).ownBlock) (.slice Ao133 t146.length co133) t146) := ⟨by (with_reducible repeat (first | apply Kd.R_alloc | apply Kd.R_drewN | apply Kd.R_drew)); exact Kd.R_mono (Kd.R_far (p := ⟨gb145, 1, none⟩) (Kd.R_far (p := ⟨gb145, 0, none⟩) (Kd.R_types HO148.out BK145.out (by decide)) (fun _ hk => hk.2) (.slice Ao133 t146.length co133)) (fun _ hk => hk.2) (.slice Ao135 t149.length co135)) (fun _ hk => hk.1)⟩
 have n2_ : Aside0 (Kd.R k63 63 ((w132.setCell ⟨gb145, 0, none⟩ (.slice Ao133 t146.length co133)).setCell ⟨gb145, 1, none⟩ (.slice Ao135 t149.length co135)) w.heap.size (fun k_ => some k_ ≠ (.slice Ao133 t146.length co133 : Value).ownBlock) (.slice Ao135 t149.length co135) t149) := ⟨by (with_reducible repeat (first | apply Kd.R_alloc | apply Kd.R_drewN | apply Kd.R_drew)); exact Kd.R_mono (Kd.R_far (p := ⟨gb145, 1, none⟩) (Kd.R_far (p := ⟨gb145, 0, none⟩) (Kd.R_types HO151.out BK145.out (by decide)) (fun _ hk => hk.2) (.slice Ao133 t146.length co133)) (fun _ hk => hk.2) (.slice Ao135 t149.length co135)) (fun _ hk => hk.1)⟩
 have n3_ : Aside0 (((w132.setCell ⟨gb145, 0, none⟩ (.slice Ao133 t146.length co133)).setCell ⟨gb145, 1, none⟩ (.slice Ao135 t149.length co135)).heap[gb130]? = some (.cells #[.slice A0_0 l0_0.length c0_0, .slice A0_1 l0_1.length c0_1, .slice A0_2 l0_2.length c0_2] 27 (0, 0))) := ⟨by (with_reducible repeat (first | refine blk_drewN ?_ _ | refine blk_drew ?_ | refine blk_alloc ?_ _)); refine blk_far ?_ NB130_145.out _; (with_reducible repeat (first | refine blk_drewN ?_ _ | refine blk_drew ?_ | refine blk_alloc ?_ _)); refine blk_far ?_ NB130_145.out _; (with_reducible repeat (first | refine blk_drewN ?_ _ | refine blk_drew ?_ | refine blk_alloc ?_ _)); exact BK130.out⟩
 have n4_ : Aside0 (((w132.setCell ⟨gb145, 0, none⟩ (.slice Ao133 t146.length co133)).setCell ⟨gb145, 1, none⟩ (.slice Ao135 t149.length co135)).heap[gb131]? = some (.cells #[.int .i64 a1] 2 (0, 0))) := ⟨by (with_reducible repeat (first | refine blk_drewN ?_ _ | refine blk_drew ?_ | refine blk_alloc ?_ _)); refine blk_far ?_ NB131_145.out _; (with_reducible repeat (first | refine blk_drewN ?_ _ | refine blk_drew ?_ | refine blk_alloc ?_ _)); refine blk_far ?_ NB131_145.out _; (with_reducible repeat (first | refine blk_drewN ?_ _ | refine blk_drew ?_ | refine blk_alloc ?_ _)); exact BK131.out⟩
 have n5_ : Aside0 (((w132.setCell ⟨gb145, 0, none⟩ (.slice Ao133 t146.length co133)).setCell ⟨gb145, 1, none⟩ (.slice Ao135 t149.length co135)).heap[gb132]? = some (.cells #[.slice none 0 0, .slice none 0 0, .slice none 0 0] 27 (0, 0))) := ⟨by (with_reducible repeat (first | refine blk_drewN ?_ _ | refine blk_drew ?_ | refine blk_alloc ?_ _)); refine blk_far ?_ NB132_145.out _; (with_reducible repeat (first | refine blk_drewN ?_ _ | refine blk_drew ?_ | refine blk_alloc ?_ _)); refine blk_far ?_ NB132_145.out _; (with_reducible repeat (first | refine blk_drewN ?_ _ | refine blk_drew ?_ | refine blk_alloc ?_ _)); exact BK132.out⟩
 have n6_ : Aside0 (((w132.setCell ⟨gb145, 0, none⟩ (.slice Ao133 t146.length co133)).setCell ⟨gb145, 1, none⟩ (.slice Ao135 t149.length co135)).heap[gb133]? = some (.cells #[.slice A0_0 l0_0.length c0_0, .slice A0_1 l0_1.length c0_1, .slice A0_2 l0_2.length c0_2] 27 (0, 0))) := ⟨by (with_reducible repeat (first | refine blk_drewN ?_ _ | refine blk_drew ?_ | refine blk_alloc ?_ _)); refine blk_far ?_ NB133_145.out _; (with_reducible repeat (first | refine blk_drewN ?_ _ | refine blk_drew ?_ | refine blk_alloc ?_ _)); refine blk_far ?_ NB133_145.out _; (with_reducible repeat (first | refine blk_drewN ?_ _ | refine blk_drew ?_ | refine blk_alloc ?_ _)); exact BK133.out⟩
 have n7_ : Aside0 (((w132.setCell ⟨gb145, 0, none⟩ (.slice Ao133 t146.length co133)).setCell ⟨gb145, 1, none⟩ (.slice Ao135 t149.length co135)).heap[gb134]? = some (.cells #[.slice none 0 0, .slice none 0 0, .slice none 0 0] 27 (0, 0))) := ⟨by (with_reducible repeat (first | refine blk_drewN ?_ _ | refine blk_drew ?_ | refine blk_alloc ?_ _)); refine blk_far ?_ NB134_145.out _; (with_reducible repeat (first | refine blk_drewN ?_ _ | refine blk_drew ?_ | refine blk_alloc ?_ _)); refine blk_far ?_ NB134_145.out _; (with_reducible repeat (first | refine blk_drewN ?_ _ | refine blk_drew ?_ | refine blk_alloc ?_ _)); exact BK134.out⟩
 have n8_ : Aside0 (((w132.setCell ⟨gb145, 0, none⟩ (.slice Ao133 t146.length co133)).setCell ⟨gb145, 1, none⟩ (.slice Ao135 t149.length co135)).heap[gb145]? = some (.cells #[.slice Ao133 t146.length co133, .slice Ao135 t149.length co135, .slice Ao127 t142.length co127] 27 (0, 0))) := ⟨by (with_reducible repeat (first | refine blk_drewN ?_ _ | refine blk_drew ?_ | refine blk_alloc ?_ _)); refine blk_put (cs := #[.slice Ao133 t146.length co133, .slice Ao126 t139.length co126, .slice Ao127 t142.length co127]) ?_ 1 _ rfl; (with_reducible repeat (first | refine blk_drewN ?_ _ | refine blk_drew ?_ | refine blk_alloc ?_ _)); refine blk_put (cs := #[.slice Ao119 t136.length co119, .slice Ao126 t139.length co126, .slice Ao127 t142.length co127]) ?_ 0 _ rfl; (with_reducible repeat (first | refine blk_drewN ?_ _ | refine blk_drew ?_ | refine blk_alloc ?_ _)); exact BK145.out⟩
 have n9_ : Aside0 (Below w.heap.size w ((w132.setCell ⟨gb145, 0, none⟩ (.slice Ao133 t146.length co133)).setCell ⟨gb145, 1, none⟩ (.slice Ao135 t149.length co135))) := ⟨by repeat (first | (with_reducible first | exact HB.out | apply below_alloc | apply pw_below_drewN | apply below_drew1 | refine below_set ?_ GE145.out) | exact HB.out)⟩
 (try clear HO144)
 (try clear HO148)
 (try clear HO151)
 (try clear BK130)
 (try clear BK131)
 (try clear BK132)
 (try clear BK133)
 (try clear BK134)
 (try clear BK145)
 (try clear HB)
 generalize ((w132.setCell ⟨gb145, 0, none⟩ (.slice Ao133 t146.length co133)).setCell ⟨gb145, 1, none⟩ (.slice Ao135 t149.length co135)) = w137 at n0_ n1_ n2_ n3_ n4_ n5_ n6_ n7_ n8_ n9_ ⊢
 have HO144 := n0_
 have HO148 := n1_
 have HO151 := n2_
 have BK130 := n3_
 have BK131 := n4_
 have BK132 := n5_
 have BK133 := n6_
 have BK134 := n7_
 have BK145 := n8_
 have HB := n9_
 clear n0_ n1_ n2_ n3_ n4_ n5_ n6_ n7_ n8_ n9_
 have n0_ := Aside0.mk (Kd.R_drew HO144.out)
 have n1_ := Aside0.mk (Kd.R_drew HO148.out)
 have n2_ := Aside0.mk (Kd.R_drew HO151.out)
 have n3_ := Aside0.mk (blk_drew BK130.out)
 have n4_ := Aside0.mk (blk_drew BK131.out)
 have n5_ := Aside0.mk (blk_drew BK132.out)
 have n6_ := Aside0.mk (blk_drew BK133.out)
 have n7_ := Aside0.mk (blk_drew BK134.out)
 have n8_ := Aside0.mk (blk_drew BK145.out)
 have n9_ := Aside0.mk (below_drew1 HB.out)
 clear HO144
 clear HO148
 clear HO151
 clear BK130
 clear BK131
 clear BK132
 clear BK133
 clear BK134
 clear BK145
 clear HB
 have HO144 := n0_
 have HO148 := n1_
 have HO151 := n2_
 have BK130 := n3_
 have BK131 := n4_
 have BK132 := n5_
 have BK133 := n6_
 have BK134 := n7_
 have BK145 := n8_
 have HB := n9_
 clear n0_ n1_ n2_ n3_ n4_ n5_ n6_ n7_ n8_ n9_
 refine start_ (n := 14) (S := fun w' => w'.cell? ⟨gb145, 0, none⟩ = some (.slice Ao133 t146.length co133) ∧ w'.cell? ⟨gb145, 1, none⟩ = some (.slice Ao135 t149.length co135) ∧ w'.cell? ⟨gb145, 2, none⟩ = some (.slice Ao127 t142.length co127)) (ds := []) m34_ s2_ rfl rfl ⟨(blk_cell BK145.out 0).trans rfl, (blk_cell BK145.out 1).trans rfl, (blk_cell BK145.out 2).trans rfl⟩ (fun hHeld => ?_); refine with_tabW impl_LeaveNow.g51.tab4 impl_LeaveNow.g51.bits4 (fun HT_ HW_ => ?_)
 generalize w137.drew = w138 at HO144 HO148 HO151 BK130 BK131 BK132 BK133 BK134 BK145 HB hHeld ⊢
 refine pu_ 0 36 m35_ (any_of HT_.out s2_) ?_
 refine pu_ 1 37 m36_ (any_of HT_.out s2_) ?_
 refine pu_ 2 38 m37_ (any_of HT_.out s2_) ?_
 refine pu_ 5 41 m38_ (any_of HT_.out s2_) ?_
 refine pu_ 6 42 m39_ (any_of HT_.out s2_) ?_
 refine pu_ 7 43 m40_ (any_of HT_.out s2_) ?_
 refine pu_ 11 47 m41_ (any_of HT_.out s2_) ?_
 refine take_ (i := 3) (N := some 39) (v := ?_) (a' := ?_) m42_ rfl rfl (take_ofW HT_.out HW_.out s2_) (fun _ _ _ h => h) (Or.inl ⟨by rfl, ?_⟩) hHeld ?_ ?_
 rotate_left
 {
 rintro w' ⟨s0, s1, s2⟩
 go_simp
 with_reducible rfl}
 rotate_left
 · exact p1_
 refine pu_ 4 40 m43_ (any_of HT_.out s2_) ?_
 refine take_ (i := 8) (N := some 44) (v := ?_) (a' := ?_) m44_ rfl rfl (take_ofW HT_.out HW_.out s2_) (fun _ _ _ h => h) (Or.inl ⟨by rfl, ?_⟩) hHeld ?_ ?_
 rotate_left
 {
 rintro w' ⟨s0, s1, s2⟩
 go_simp
 with_reducible rfl}
 rotate_left
 · exact p1_
 refine pu_ 9 45 m45_ (any_of HT_.out s2_) ?_
 refine pu_ 10 46 m46_ (any_of HT_.out s2_) ?_
 refine pu_ 12 48 m47_ (any_of HT_.out s2_) ?_
 refine pu_ 13 3 m48_ (any_of HT_.out s2_) ?_
 refine done_ (done_of HT_.out s2_) ?_
 have hnb139 := NB134_130.out
 have hnc139 := NB130_134.out
 have hnb140 := NB134_131.out
 have hnc140 := NB131_134.out
 have hnb141 := NB134_132.out
 have hnc141 := NB132_134.out
 have hcz142_0 : w138.cell? ⟨gb134, 0, none⟩ = some (.slice none 0 0) := (blk_cell BK134.out 0).trans rfl
 have hcz142_1 : w138.cell? ⟨gb134, 1, none⟩ = some (.slice none 0 0) := (blk_cell BK134.out 1).trans rfl
 have hcz142_2 : w138.cell? ⟨gb134, 2, none⟩ = some (.slice none 0 0) := (blk_cell BK134.out 2).trans rfl
 have hfz142_0 := blk_frozen BK134.out 0
 have hfz142_1 := blk_frozen BK134.out 1
 have hfz142_2 := blk_frozen BK134.out 2
 try go_wp2_with (fail)
 (try simp only [Exit.inBlock, Exit.then])
 refine bodyPost_ret (results_ct rfl _ _ gb134 27 #[.slice none 0 0, .slice none 0 0, .slice none 0 0] (0, 0) _ rfl (by (with_reducible repeat (first | refine blk_drewN ?_ _ | refine blk_drew ?_ | refine blk_alloc ?_ _)); refine blk_put3 (cs := #[.slice none 0 0, .slice none 0 0, .slice none 0 0]) ?_ rfl; (with_reducible repeat (first | refine blk_drewN ?_ _ | refine blk_drew ?_ | refine blk_alloc ?_ _)); exact BK134.out) Try.underlying27 rfl s2_) rfl ?_
 (try simp only [])
 have hnb143 := NB132_131.out
 have hnc143 := NB131_132.out
 have hcz144_0 : w138.cell? ⟨gb132, 0, none⟩ = some (.slice none 0 0) := (blk_cell BK132.out 0).trans rfl
 have hcz144_1 : w138.cell? ⟨gb132, 1, none⟩ = some (.slice none 0 0) := (blk_cell BK132.out 1).trans rfl
 have hcz144_2 : w138.cell? ⟨gb132, 2, none⟩ = some (.slice none 0 0) := (blk_cell BK132.out 2).trans rfl
 have hfz144_0 := blk_frozen BK132.out 0
 have hfz144_1 := blk_frozen BK132.out 1
 have hfz144_2 := blk_frozen BK132.out 2
 try go_wp2_with (fail)
 refine bodyPost_ret (results_ct rfl _ _ gb132 27 #[.slice none 0 0, .slice none 0 0, .slice none 0 0] (0, 0) _ rfl (by (with_reducible repeat (first | refine blk_drewN ?_ _ | refine blk_drew ?_ | refine blk_alloc ?_ _)); refine blk_put3 (cs := #[.slice none 0 0, .slice none 0 0, .slice none 0 0]) ?_ rfl; (with_reducible repeat (first | refine blk_drewN ?_ _ | refine blk_drew ?_ | refine blk_alloc ?_ _)); refine blk_far3 ?_ NB132_134.out; (with_reducible repeat (first | refine blk_drewN ?_ _ | refine blk_drew ?_ | refine blk_alloc ?_ _)); exact BK132.out) Try.underlying27 rfl s2_) rfl ?_
 exact ⟨_, _, _, by first | rfl | (simp [errW_none, errW_some] <;> rfl) | (simp [*, errW_none, errW_some] <;> rfl), by first | exact Kd.R_nil _ _ _ _ _ | exact Kd.N_nil _ _ _ _ _ | exact Kd.V_nil _ _ _ _ _ | exact Kd.Q_nil _ _ _ _ _ | exact Kd.S_nil _ _ _ _ _, by first | exact Kd.R_nil _ _ _ _ _ | exact Kd.N_nil _ _ _ _ _ | exact Kd.V_nil _ _ _ _ _ | exact Kd.Q_nil _ _ _ _ _ | exact Kd.S_nil _ _ _ _ _, by first | exact Kd.R_nil _ _ _ _ _ | exact Kd.N_nil _ _ _ _ _ | exact Kd.V_nil _ _ _ _ _ | exact Kd.Q_nil _ _ _ _ _ | exact Kd.S_nil _ _ _ _ _, by repeat (first | (with_reducible first | exact HB.out | apply below_alloc | apply pw_below_drewN | apply below_drew1 | refine below_set ?_ GE132.out | refine below_set ?_ GE134.out) | exact HB.out)⟩}}
 {
 replace c4 := Bool.eq_false_iff.mpr c4
 subst c4
 have H1 : (some (([] : List (S63)), ([] : List (S63)), ([] : List (S73)), false)) = some (r1, r2, r3, r4) := by rw [if_neg (show ¬ (false = true) by decide)] at H; exact H
 clear H
 have H := H1
 clear H1
 simp only [Option.some.injEq, Prod.mk.injEq] at H
 obtain ⟨rfl, rfl, rfl, rfl⟩ := H
 go_enter Try.func18, Try.ntmps18
 try go_wp2_with (first | ((with_reducible refine gate_dst (N := 2) rfl ?_); (try (refine gate_guard (by rfl) ?_; dsimp only)); refine box_event ?hg (N := 2) ?hd (cs := #[.slice A0_0 l0_0.length c0_0, .slice A0_1 l0_1.length c0_1, .slice A0_2 l0_2.length c0_2]) (t := 27) ?hr ?_; (case hd => rfl); (case hg => rfl); (case hr => first | (go_simp; done) | (go_simp; rfl)); intro gb130 hg w145 hbox hb; have n0_ := Aside0.mk (below_step (y1_ HB.out) hb); have n1_ := Aside0.mk (hbox); have n2_ := Aside0.mk ((by rw [hg]; exact (below_size (y1_ HB.out)) : w.heap.size ≤ gb130)); have n3_ := Aside0.mk ((by rw [hg]; exact (below_size (y1_ HB.out)) : w.heap.size ≤ gb130)); clear HB; have HB := n0_; have BK130 := n1_; have GW130 := n2_; have GE130 := n3_; clear n0_ n1_ n2_ n3_; clear hb hbox hg) | ((with_reducible refine gate_dst (N := 3) rfl ?_); (try (refine gate_guard (by rfl) ?_; dsimp only)); refine box_event ?hg (N := 3) ?hd (cs := #[.int .i64 a1]) (t := 2) ?hr ?_; (case hd => rfl); (case hg => rfl); (case hr => first | (go_simp; done) | (go_simp; rfl)); intro gb131 hg w146 hbox hb; have n0_ := Aside0.mk (blk_below (g := gb130) (o := .cells #[.slice A0_0 l0_0.length c0_0, .slice A0_1 l0_1.length c0_1, .slice A0_2 l0_2.length c0_2] 27 (0, 0)) (b1_ BK130.out) hb); have n1_ := Aside0.mk (below_step (y1_ HB.out) hb); have n2_ := Aside0.mk (hbox); have n3_ := Aside0.mk ((by rw [hg]; exact (below_size (y1_ HB.out)) : w.heap.size ≤ gb131)); have n4_ := Aside0.mk ((by rw [hg]; exact (below_size (y1_ HB.out)) : w.heap.size ≤ gb131)); have n5_ := Aside0.mk ((by rw [hg]; exact Nat.ne_of_lt (blk_lt (g := gb130) (o := .cells #[.slice A0_0 l0_0.length c0_0, .slice A0_1 l0_1.length c0_1, .slice A0_2 l0_2.length c0_2] 27 (0, 0)) (b1_ BK130.out)) : gb130 ≠ gb131)); have n6_ := Aside0.mk ((by rw [hg]; exact Nat.ne_of_gt (blk_lt (g := gb130) (o := .cells #[.slice A0_0 l0_0.length c0_0, .slice A0_1 l0_1.length c0_1, .slice A0_2 l0_2.length c0_2] 27 (0, 0)) (b1_ BK130.out)) : gb131 ≠ gb130)); clear BK130; clear HB; have BK130 := n0_; have HB := n1_; have BK131 := n2_; have GW131 := n3_; have GE131 := n4_; have NB130_131 := n5_; have NB131_130 := n6_; clear n0_ n1_ n2_ n3_ n4_ n5_ n6_; clear hb hbox hg) | ((with_reducible refine gate_dst (N := 4) rfl ?_); (try (refine gate_guard (by rfl) ?_; dsimp only)); refine box_event ?hg (N := 4) ?hd (cs := #[.slice none 0 0, .slice none 0 0, .slice none 0 0]) (t := 27) ?hr ?_; (case hd => rfl); (case hg => rfl); (case hr => first | (go_simp; done) | (go_simp; rfl)); intro gb132 hg w147 hbox hb; have n0_ := Aside0.mk (blk_below (g := gb130) (o := .cells #[.slice A0_0 l0_0.length c0_0, .slice A0_1 l0_1.length c0_1, .slice A0_2 l0_2.length c0_2] 27 (0, 0)) (b1_ BK130.out) hb); have n1_ := Aside0.mk (blk_below (g := gb131) (o := .cells #[.int .i64 a1] 2 (0, 0)) (b1_ BK131.out) hb); have n2_ := Aside0.mk (below_step (y1_ HB.out) hb); have n3_ := Aside0.mk (hbox); have n4_ := Aside0.mk ((by rw [hg]; exact (below_size (y1_ HB.out)) : w.heap.size ≤ gb132)); have n5_ := Aside0.mk ((by rw [hg]; exact (below_size (y1_ HB.out)) : w.heap.size ≤ gb132)); have n6_ := Aside0.mk ((by rw [hg]; exact Nat.ne_of_lt (blk_lt (g := gb130) (o := .cells #[.slice A0_0 l0_0.length c0_0, .slice A0_1 l0_1.length c0_1, .slice A0_2 l0_2.length c0_2] 27 (0, 0)) (b1_ BK130.out)) : gb130 ≠ gb132)); have n7_ := Aside0.mk ((by rw [hg]; exact Nat.ne_of_gt (blk_lt (g := gb130) (o := .cells #[.slice A0_0 l0_0.length c0_0, .slice A0_1 l0_1.length c0_1, .slice A0_2 l0_2.length c0_2] 27 (0, 0)) (b1_ BK130.out)) : gb132 ≠ gb130)); have n8_ := Aside0.mk ((by rw [hg]; exact Nat.ne_of_lt (blk_lt (g := gb131) (o := .cells #[.int .i64 a1] 2 (0, 0)) (b1_ BK131.out)) : gb131 ≠ gb132)); have n9_ := Aside0.mk ((by rw [hg]; exact Nat.ne_of_gt (blk_lt (g := gb131) (o := .cells #[.int .i64 a1] 2 (0, 0)) (b1_ BK131.out)) : gb132 ≠ gb131)); clear BK130; clear BK131; clear HB; have BK130 := n0_; have BK131 := n1_; have HB := n2_; have BK132 := n3_; have GW132 := n4_; have GE132 := n5_; have NB130_132 := n6_; have NB132_130 := n7_; have NB131_132 := n8_; have NB132_131 := n9_; clear n0_ n1_ n2_ n3_ n4_ n5_ n6_ n7_ n8_ n9_; clear hb hbox hg; have hnb148 := NB130_131.out; have hnc148 := NB131_130.out; have hnb149 := NB130_132.out; have hnc149 := NB132_130.out; have hcz150_0 : w147.cell? ⟨gb130, 0, none⟩ = some (.slice A0_0 l0_0.length c0_0) := (blk_cell BK130.out 0).trans rfl; have hcz150_1 : w147.cell? ⟨gb130, 1, none⟩ = some (.slice A0_1 l0_1.length c0_1) := (blk_cell BK130.out 1).trans rfl; have hcz150_2 : w147.cell? ⟨gb130, 2, none⟩ = some (.slice A0_2 l0_2.length c0_2) := (blk_cell BK130.out 2).trans rfl; have hfz150_0 := blk_frozen BK130.out 0; have hfz150_1 := blk_frozen BK130.out 1; have hfz150_2 := blk_frozen BK130.out 2))
 go_at_call 42
 go_in
 try go_wp2_with (first | ((with_reducible refine gate_dst (N := 2) rfl ?_); (try (refine gate_guard (by rfl) ?_; dsimp only)); refine box_event ?hg (N := 2) ?hd (cs := #[.slice A0_0 l0_0.length c0_0, .slice A0_1 l0_1.length c0_1, .slice A0_2 l0_2.length c0_2]) (t := 27) ?hr ?_; (case hd => rfl); (case hg => rfl); (case hr => first | (go_simp; done) | (go_simp; rfl)); intro gb133 hg w151 hbox hb; have n0_ := Aside0.mk (blk_below (g := gb130) (o := .cells #[.slice A0_0 l0_0.length c0_0, .slice A0_1 l0_1.length c0_1, .slice A0_2 l0_2.length c0_2] 27 (0, 0)) (b1_ BK130.out) hb); have n1_ := Aside0.mk (blk_below (g := gb131) (o := .cells #[.int .i64 a1] 2 (0, 0)) (b1_ BK131.out) hb); have n2_ := Aside0.mk (blk_below (g := gb132) (o := .cells #[.slice none 0 0, .slice none 0 0, .slice none 0 0] 27 (0, 0)) (b1_ BK132.out) hb); have n3_ := Aside0.mk (below_step (y1_ HB.out) hb); have n4_ := Aside0.mk (hbox); have n5_ := Aside0.mk ((by rw [hg]; exact (below_size (y1_ HB.out)) : w.heap.size ≤ gb133)); have n6_ := Aside0.mk ((by rw [hg]; exact (below_size (y1_ HB.out)) : w.heap.size ≤ gb133)); have n7_ := Aside0.mk ((by rw [hg]; exact Nat.ne_of_lt (blk_lt (g := gb130) (o := .cells #[.slice A0_0 l0_0.length c0_0, .slice A0_1 l0_1.length c0_1, .slice A0_2 l0_2.length c0_2] 27 (0, 0)) (b1_ BK130.out)) : gb130 ≠ gb133)); have n8_ := Aside0.mk ((by rw [hg]; exact Nat.ne_of_gt (blk_lt (g := gb130) (o := .cells #[.slice A0_0 l0_0.length c0_0, .slice A0_1 l0_1.length c0_1, .slice A0_2 l0_2.length c0_2] 27 (0, 0)) (b1_ BK130.out)) : gb133 ≠ gb130)); have n9_ := Aside0.mk ((by rw [hg]; exact Nat.ne_of_lt (blk_lt (g := gb131) (o := .cells #[.int .i64 a1] 2 (0, 0)) (b1_ BK131.out)) : gb131 ≠ gb133)); have n10_ := Aside0.mk ((by rw [hg]; exact Nat.ne_of_gt (blk_lt (g := gb131) (o := .cells #[.int .i64 a1] 2 (0, 0)) (b1_ BK131.out)) : gb133 ≠ gb131)); have n11_ := Aside0.mk ((by rw [hg]; exact Nat.ne_of_lt (blk_lt (g := gb132) (o := .cells #[.slice none 0 0, .slice none 0 0, .slice none 0 0] 27 (0, 0)) (b1_ BK132.out)) : gb132 ≠ gb133)); have n12_ := Aside0.mk ((by rw [hg]; exact Nat.ne_of_gt (blk_lt (g := gb132) (o := .cells #[.slice none 0 0, .slice none 0 0, .slice none 0 0] 27 (0, 0)) (b1_ BK132.out)) : gb133 ≠ gb132)); clear BK130; clear BK131; clear BK132; clear HB; have BK130 := n0_; have BK131 := n1_; have BK132 := n2_; have HB := n3_; have BK133 := n4_; have GW133 := n5_; have GE133 := n6_; have NB130_133 := n7_; have NB133_130 := n8_; have NB131_133 := n9_; have NB133_131 := n10_; have NB132_133 := n11_; have NB133_132 := n12_; clear n0_ n1_ n2_ n3_ n4_ n5_ n6_ n7_ n8_ n9_ n10_ n11_ n12_; clear hb hbox hg) | ((with_reducible refine gate_dst (N := 4) rfl ?_); (try (refine gate_guard (by rfl) ?_; dsimp only)); refine box_event ?hg (N := 4) ?hd (cs := #[.slice none 0 0, .slice none 0 0, .slice none 0 0]) (t := 27) ?hr ?_; (case hd => rfl); (case hg => rfl); (case hr => first | (go_simp; done) | (go_simp; rfl)); intro gb134 hg w152 hbox hb; have n0_ := Aside0.mk (blk_below (g := gb130) (o := .cells #[.slice A0_0 l0_0.length c0_0, .slice A0_1 l0_1.length c0_1, .slice A0_2 l0_2.length c0_2] 27 (0, 0)) (b1_ BK130.out) hb); have n1_ := Aside0.mk (blk_below (g := gb131) (o := .cells #[.int .i64 a1] 2 (0, 0)) (b1_ BK131.out) hb); have n2_ := Aside0.mk (blk_below (g := gb132) (o := .cells #[.slice none 0 0, .slice none 0 0, .slice none 0 0] 27 (0, 0)) (b1_ BK132.out) hb); have n3_ := Aside0.mk (blk_below (g := gb133) (o := .cells #[.slice A0_0 l0_0.length c0_0, .slice A0_1 l0_1.length c0_1, .slice A0_2 l0_2.length c0_2] 27 (0, 0)) (b1_ BK133.out) hb); have n4_ := Aside0.mk (below_step (y1_ HB.out) hb); have n5_ := Aside0.mk (hbox); have n6_ := Aside0.mk ((by rw [hg]; exact (below_size (y1_ HB.out)) : w.heap.size ≤ gb134)); have n7_ := Aside0.mk ((by rw [hg]; exact (below_size (y1_ HB.out)) : w.heap.size ≤ gb134)); have n8_ := Aside0.mk ((by rw [hg]; exact Nat.ne_of_lt (blk_lt (g := gb130) (o := .cells #[.slice A0_0 l0_0.length c0_0, .slice A0_1 l0_1.length c0_1, .slice A0_2 l0_2.length c0_2] 27 (0, 0)) (b1_ BK130.out)) : gb130 ≠ gb134)); have n9_ := Aside0.mk ((by rw [hg]; exact Nat.ne_of_gt (blk_lt (g := gb130) (o := .cells #[.slice A0_0 l0_0.length c0_0, .slice A0_1 l0_1.length c0_1, .slice A0_2 l0_2.length c0_2] 27 (0, 0)) (b1_ BK130.out)) : gb134 ≠ gb130)); have n10_ := Aside0.mk ((by rw [hg]; exact Nat.ne_of_lt (blk_lt (g := gb131) (o := .cells #[.int .i64 a1] 2 (0, 0)) (b1_ BK131.out)) : gb131 ≠ gb134)); have n11_ := Aside0.mk ((by rw [hg]; exact Nat.ne_of_gt (blk_lt (g := gb131) (o := .cells #[.int .i64 a1] 2 (0, 0)) (b1_ BK131.out)) : gb134 ≠ gb131)); have n12_ := Aside0.mk ((by rw [hg]; exact Nat.ne_of_lt (blk_lt (g := gb132) (o := .cells #[.slice none 0 0, .slice none 0 0, .slice none 0 0] 27 (0, 0)) (b1_ BK132.out)) : gb132 ≠ gb134)); have n13_ := Aside0.mk ((by rw [hg]; exact Nat.ne_of_gt (blk_lt (g := gb132) (o := .cells #[.slice none 0 0, .slice none 0 0, .slice none 0 0] 27 (0, 0)) (b1_ BK132.out)) : gb134 ≠ gb132)); have n14_ := Aside0.mk ((by rw [hg]; exact Nat.ne_of_lt (blk_lt (g := gb133) (o := .cells #[.slice A0_0 l0_0.length c0_0, .slice A0_1 l0_1.length c0_1, .slice A0_2 l0_2.length c0_2] 27 (0, 0)) (b1_ BK133.out)) : gb133 ≠ gb134)); have n15_ := Aside0.mk ((by rw [hg]; exact Nat.ne_of_gt (blk_lt (g := gb133) (o := .cells #[.slice A0_0 l0_0.length c0_0, .slice A0_1 l0_1.length c0_1, .slice A0_2 l0_2.length c0_2] 27 (0, 0)) (b1_ BK133.out)) : gb134 ≠ gb133)); clear BK130; clear BK131; clear BK132; clear BK133; clear HB; have BK130 := n0_; have BK131 := n1_; have BK132 := n2_; have BK133 := n3_; have HB := n4_; have BK134 := n5_; have GW134 := n6_; have GE134 := n7_; have NB130_134 := n8_; have NB134_130 := n9_; have NB131_134 := n10_; have NB134_131 := n11_; have NB132_134 := n12_; have NB134_132 := n13_; have NB133_134 := n14_; have NB134_133 := n15_; clear n0_ n1_ n2_ n3_ n4_ n5_ n6_ n7_ n8_ n9_ n10_ n11_ n12_ n13_ n14_ n15_; clear hb hbox hg; have hnb153 := NB133_130.out; have hnc153 := NB130_133.out; have hnb154 := NB133_131.out; have hnc154 := NB131_133.out; have hnb155 := NB133_132.out; have hnc155 := NB132_133.out; have hnb156 := NB133_134.out; have hnc156 := NB134_133.out; have hcz157_0 : w152.cell? ⟨gb133, 0, none⟩ = some (.slice A0_0 l0_0.length c0_0) := (blk_cell BK133.out 0).trans rfl; have hcz157_1 : w152.cell? ⟨gb133, 1, none⟩ = some (.slice A0_1 l0_1.length c0_1) := (blk_cell BK133.out 1).trans rfl; have hcz157_2 : w152.cell? ⟨gb133, 2, none⟩ = some (.slice A0_2 l0_2.length c0_2) := (blk_cell BK133.out 2).trans rfl; have hfz157_0 := blk_frozen BK133.out 0; have hfz157_1 := blk_frozen BK133.out 1; have hfz157_2 := blk_frozen BK133.out 2) | ((with_reducible refine gate_callee (f := 19) rfl ?_); refine goesL_ (some 8) rfl rfl Try.func19 s2_ rfl #[.agg #[.slice A0_0 l0_0.length c0_0, .slice A0_1 l0_1.length c0_1, .slice A0_2 l0_2.length c0_2]] rfl s3_ ?_; (with_reducible refine (impl_ValidPresence.calls k _ _ l0_0 _ _ l0_1 _ _ l0_2 false _ ?side1 ?side2 ?side3 ?side4 ?side5 ?side6 A3.out).mono ?_); (case side1 => exact y2_ (Kd.C_below HR0_0.out HB.out)); (case side2 => exact HC0_0.out); (case side3 => exact y2_ (Kd.C_below HR0_1.out HB.out)); (case side4 => exact HC0_1.out); (case side5 => exact y2_ (Kd.C_below HR0_2.out HB.out)); (case side6 => exact HC0_2.out); rintro e w158 ⟨rfl, hb⟩; refine ⟨_, rfl, ?_⟩; have n0_ := Aside0.mk (blk_below (g := gb130) (o := .cells #[.slice A0_0 l0_0.length c0_0, .slice A0_1 l0_1.length c0_1, .slice A0_2 l0_2.length c0_2] 27 (0, 0)) (b1_ BK130.out) hb); have n1_ := Aside0.mk (blk_below (g := gb131) (o := .cells #[.int .i64 a1] 2 (0, 0)) (b1_ BK131.out) hb); have n2_ := Aside0.mk (blk_below (g := gb132) (o := .cells #[.slice none 0 0, .slice none 0 0, .slice none 0 0] 27 (0, 0)) (b1_ BK132.out) hb); have n3_ := Aside0.mk (blk_below (g := gb133) (o := .cells #[.slice A0_0 l0_0.length c0_0, .slice A0_1 l0_1.length c0_1, .slice A0_2 l0_2.length c0_2] 27 (0, 0)) (b1_ BK133.out) hb); have n4_ := Aside0.mk (blk_below (g := gb134) (o := .cells #[.slice none 0 0, .slice none 0 0, .slice none 0 0] 27 (0, 0)) (b1_ BK134.out) hb); have n5_ := Aside0.mk (below_step (y1_ HB.out) hb); clear BK130; clear BK131; clear BK132; clear BK133; clear BK134; clear HB; have BK130 := n0_; have BK131 := n1_; have BK132 := n2_; have BK133 := n3_; have BK134 := n4_; have HB := n5_; clear n0_ n1_ n2_ n3_ n4_ n5_; (try clear hb); (try clear hb2); (try clear hk); (try clear hi); have hnb159 := NB134_130.out; have hnc159 := NB130_134.out; have hnb160 := NB134_131.out; have hnc160 := NB131_134.out; have hnb161 := NB134_132.out; have hnc161 := NB132_134.out; have hcz162_0 : w158.cell? ⟨gb134, 0, none⟩ = some (.slice none 0 0) := (blk_cell BK134.out 0).trans rfl; have hcz162_1 : w158.cell? ⟨gb134, 1, none⟩ = some (.slice none 0 0) := (blk_cell BK134.out 1).trans rfl; have hcz162_2 : w158.cell? ⟨gb134, 2, none⟩ = some (.slice none 0 0) := (blk_cell BK134.out 2).trans rfl; have hfz162_0 := blk_frozen BK134.out 0; have hfz162_1 := blk_frozen BK134.out 1; have hfz162_2 := blk_frozen BK134.out 2))
 (try simp only [Exit.inBlock, Exit.then])
 refine bodyPost_ret (results_ct rfl _ _ gb134 27 #[.slice none 0 0, .slice none 0 0, .slice none 0 0] (0, 0) _ rfl (by (with_reducible repeat (first | refine blk_drewN ?_ _ | refine blk_drew ?_ | refine blk_alloc ?_ _)); refine blk_put3 (cs := #[.slice none 0 0, .slice none 0 0, .slice none 0 0]) ?_ rfl; (with_reducible repeat (first | refine blk_drewN ?_ _ | refine blk_drew ?_ | refine blk_alloc ?_ _)); exact BK134.out) Try.underlying27 rfl s2_) rfl ?_
 (try simp only [])
 have hnb163 := NB132_131.out
 have hnc163 := NB131_132.out
 have hcz164_0 : w158.cell? ⟨gb132, 0, none⟩ = some (.slice none 0 0) := (blk_cell BK132.out 0).trans rfl
 have hcz164_1 : w158.cell? ⟨gb132, 1, none⟩ = some (.slice none 0 0) := (blk_cell BK132.out 1).trans rfl
 have hcz164_2 : w158.cell? ⟨gb132, 2, none⟩ = some (.slice none 0 0) := (blk_cell BK132.out 2).trans rfl
 have hfz164_0 := blk_frozen BK132.out 0
 have hfz164_1 := blk_frozen BK132.out 1
 have hfz164_2 := blk_frozen BK132.out 2
 try go_wp2_with (fail)
 refine bodyPost_ret (results_ct rfl _ _ gb132 27 #[.slice none 0 0, .slice none 0 0, .slice none 0 0] (0, 0) _ rfl (by (with_reducible repeat (first | refine blk_drewN ?_ _ | refine blk_drew ?_ | refine blk_alloc ?_ _)); refine blk_put3 (cs := #[.slice none 0 0, .slice none 0 0, .slice none 0 0]) ?_ rfl; (with_reducible repeat (first | refine blk_drewN ?_ _ | refine blk_drew ?_ | refine blk_alloc ?_ _)); refine blk_far3 ?_ NB132_134.out; (with_reducible repeat (first | refine blk_drewN ?_ _ | refine blk_drew ?_ | refine blk_alloc ?_ _)); exact BK132.out) Try.underlying27 rfl s2_) rfl ?_
 exact ⟨_, _, _, by first | rfl | (simp [errW_none, errW_some] <;> rfl) | (simp [*, errW_none, errW_some] <;> rfl), by first | exact Kd.R_nil _ _ _ _ _ | exact Kd.N_nil _ _ _ _ _ | exact Kd.V_nil _ _ _ _ _ | exact Kd.Q_nil _ _ _ _ _ | exact Kd.S_nil _ _ _ _ _, by first | exact Kd.R_nil _ _ _ _ _ | exact Kd.N_nil _ _ _ _ _ | exact Kd.V_nil _ _ _ _ _ | exact Kd.Q_nil _ _ _ _ _ | exact Kd.S_nil _ _ _ _ _, by first | exact Kd.R_nil _ _ _ _ _ | exact Kd.N_nil _ _ _ _ _ | exact Kd.V_nil _ _ _ _ _ | exact Kd.Q_nil _ _ _ _ _ | exact Kd.S_nil _ _ _ _ _, by repeat (first | (with_reducible first | exact HB.out | apply below_alloc | apply pw_below_drewN | apply below_drew1 | refine below_set ?_ GE132.out | refine below_set ?_ GE134.out) | exact HB.out)⟩}

end Go.Proofs.Ytgfilednbllkmaa.QFnExactLeaveNow
