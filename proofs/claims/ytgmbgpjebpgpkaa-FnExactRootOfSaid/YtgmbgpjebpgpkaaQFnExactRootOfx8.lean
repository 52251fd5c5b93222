-- written by a program of this session, on the lines of the kit's print
import Derived.Test.YtgmbgpjebpgpkaaQFnExactRootOfx0
import Derived.Test.YtgmbgpjebpgpkaaQFnExactRootOfx6
import Derived.Test.YtgmbgpjebpgpkaaQFnExactRootOfx7
namespace Go.Proofs.Ytgmbgpjebpgpkaa.QFnExactRootOf
open Go.RowKit Go.Proofs.YtgmbgpjebpgpkaaW.PrintWords Go.Proofs.YtgmbgpjebpgpkaaW.PrintLast Go.Proofs.YtgmbgpjebpgpkaaW.PrintMore
attribute [local go_sem] max2_int min2_int max_two min_two max_three min_three max_four min_four   -- for this text's walks alone
set_option linter.unusedVariables false
set_option linter.unusedSimpArgs false

/-! ### impl_ValidLog: function 39 -/
abbrev impl_ValidLog.T : Bool := true
abbrev impl_ValidLog.F : Bool := false
theorem impl_ValidLog.s1_ {P : Prop} (h : P := by first | rfl | (simp; done) | (simp [*]; done)) : P := h
theorem impl_ValidLog.s2_ {P : Prop} (h : P := by kernel_rfl) : P := h
theorem impl_ValidLog.s3_ {P : Prop} (h : P := by (try simp only [List.map_toArray, List.map_cons, List.map_nil]); first | done | rfl | (simp only [List.length_drop, List.length_take]; rfl)) : P := h
abbrev impl_ValidLog.m0_ : Array Bool := #[F,F,F,F,F,F,F,F,F,F,F,F,F,F,F,F,F,F,F,F,F,F,F,F,F,F,F,F,F,F,F,F,F,F,F,F,F,F]
abbrev impl_ValidLog.m1_ : Array Bool := #[T,F,F,F,F,F,F,F,F,F,F,F,F,F,F,F,F,F,F,F,F,F,F,F,F,F,F,F,F,F,F,F,F,F,F,F,F,F]
abbrev impl_ValidLog.m2_ : Array Bool := #[T,T,F,F,F,F,F,F,F,F,F,F,F,F,F,F,F,F,F,F,F,F,F,F,F,F,F,F,F,F,F,F,F,F,F,F,F,F]
abbrev impl_ValidLog.m3_ : Array Bool := #[T,T,T,F,F,F,F,F,F,F,F,F,F,F,F,F,F,F,F,F,F,F,F,F,F,F,F,F,F,F,F,F,F,F,F,F,F,F]
abbrev impl_ValidLog.m4_ : Array Bool := #[T,T,T,T,F,F,F,F,F,F,F,F,F,F,F,F,F,F,F,F,F,F,F,F,F,F,F,F,F,F,F,F,F,F,F,F,F,F]
abbrev impl_ValidLog.m5_ : Array Bool := #[T,T,T,T,T,F,F,F,F,F,F,F,F,F,F,F,F,F,F,F,F,F,F,F,F,F,F,F,F,F,F,F,F,F,F,F,F,F]
abbrev impl_ValidLog.m6_ : Array Bool := #[T,T,T,T,T,F,T,F,F,F,F,F,F,F,F,F,F,F,F,F,F,F,F,F,F,F,F,F,F,F,F,F,F,F,F,F,F,F]
abbrev impl_ValidLog.m7_ : Array Bool := #[T,T,T,T,T,T,T,F,F,F,F,F,F,F,F,F,F,F,F,F,F,F,F,F,F,F,F,F,F,F,F,F,F,F,F,F,F,F]
abbrev impl_ValidLog.m8_ : Array Bool := #[T,T,T,T,T,T,T,T,F,F,F,F,F,F,F,F,F,F,F,F,F,F,F,F,F,F,F,F,F,F,F,F,F,F,F,F,F,F]
abbrev impl_ValidLog.m9_ : Array Bool := #[T,T,T,T,T,T,T,T,T,F,F,F,F,F,F,F,F,F,F,F,F,F,F,F,F,F,F,F,F,F,F,F,F,F,F,F,F,F]
abbrev impl_ValidLog.m10_ : Array Bool := #[T,T,T,T,T,T,T,T,T,T,F,F,F,F,F,F,F,F,F,F,F,F,F,F,F,F,F,F,F,F,F,F,F,F,F,F,F,F]
abbrev impl_ValidLog.m11_ : Array Bool := #[T,T,T,T,T,T,T,T,T,T,T,F,F,F,F,F,F,F,F,F,F,F,F,F,F,F,F,F,F,F,F,F,F,F,F,F,F,F]
abbrev impl_ValidLog.m12_ : Array Bool := #[T,T,T,T,T,T,T,T,T,T,T,T,F,F,F,F,F,F,F,F,F,F,F,F,F,F,F,F,F,F,F,F,F,F,F,F,F,F]
abbrev impl_ValidLog.m13_ : Array Bool := #[T,T,T,T,T,T,T,T,T,T,T,T,T,F,F,F,F,F,F,F,F,F,F,F,F,F,F,F,F,F,F,F,F,F,F,F,F,F]
abbrev impl_ValidLog.m14_ : Array Bool := #[T,T,T,T,T,T,T,T,T,T,T,T,T,T,F,F,F,F,F,F,F,F,F,F,F,F,F,F,F,F,F,F,F,F,F,F,F,F]
abbrev impl_ValidLog.m15_ : Array Bool := #[T,T,T,T,T,T,T,T,T,T,T,T,T,T,T,F,F,F,F,F,F,F,F,F,F,F,F,F,F,F,F,F,F,F,F,F,F,F]
abbrev impl_ValidLog.m16_ : Array Bool := #[T,T,T,T,T,T,T,T,T,T,T,T,T,T,T,T,F,F,F,F,F,F,F,F,F,F,F,F,F,F,F,F,F,F,F,F,F,F]
abbrev impl_ValidLog.m17_ : Array Bool := #[T,T,T,T,T,T,T,T,T,T,T,T,T,T,T,T,T,F,F,F,F,F,F,F,F,F,F,F,F,F,F,F,F,F,F,F,F,F]
abbrev impl_ValidLog.m18_ : Array Bool := #[T,T,T,T,T,T,T,T,T,T,T,T,T,T,T,T,T,T,F,F,F,F,F,F,F,F,F,F,F,F,F,F,F,F,F,F,F,F]
abbrev impl_ValidLog.m19_ : Array Bool := #[T,T,T,T,T,T,T,T,T,T,T,T,T,T,T,T,T,T,T,F,F,F,F,F,F,F,F,F,F,F,F,F,F,F,F,F,F,F]
abbrev impl_ValidLog.m20_ : Array Bool := #[T,T,T,T,T,T,T,T,T,T,T,T,T,T,T,T,T,T,T,T,F,F,F,F,F,F,F,F,F,F,F,F,F,F,F,F,F,F]
abbrev impl_ValidLog.m21_ : Array Bool := #[T,T,T,T,T,T,T,T,T,T,T,T,T,T,T,T,T,T,T,T,T,F,F,F,F,F,F,F,F,F,F,F,F,F,F,F,F,F]
abbrev impl_ValidLog.m22_ : Array Bool := #[T,T,T,T,T,T,T,T,T,T,T,T,T,T,T,T,T,T,T,T,T,T,F,F,F,F,F,F,F,F,F,F,F,F,F,F,F,F]
abbrev impl_ValidLog.m23_ : Array Bool := #[T,T,T,T,T,T,T,T,T,T,T,T,T,T,T,T,T,T,T,T,T,T,T,F,F,F,F,F,F,F,F,F,F,F,F,F,F,F]
abbrev impl_ValidLog.m24_ : Array Bool := #[T,T,T,T,T,T,T,T,T,T,T,T,T,T,T,T,T,T,T,T,T,T,T,T,F,F,F,F,F,F,F,F,F,F,F,F,F,F]
abbrev impl_ValidLog.m25_ : Array Bool := #[T,T,T,T,T,T,T,T,T,T,T,T,T,T,T,T,T,T,T,T,T,T,T,T,T,F,F,F,F,F,F,F,F,F,F,F,F,F]
abbrev impl_ValidLog.m26_ : Array Bool := #[T,T,T,T,T,T,T,T,T,T,T,T,T,T,T,T,T,T,T,T,T,T,T,T,T,T,F,F,F,F,F,F,F,F,F,F,F,F]
abbrev impl_ValidLog.m27_ : Array Bool := #[T,T,T,T,T,T,T,T,T,T,T,T,T,T,T,T,T,T,T,T,T,T,T,T,T,T,T,F,F,F,F,F,F,F,F,F,F,F]
abbrev impl_ValidLog.m28_ : Array Bool := #[T,T,T,T,T,T,T,T,T,T,T,T,T,T,T,T,T,T,T,T,T,T,T,T,T,T,T,T,F,F,F,F,F,F,F,F,F,F]
abbrev impl_ValidLog.m29_ : Array Bool := #[T,T,T,T,T,T,T,T,T,T,T,T,T,T,T,T,T,T,T,T,T,T,T,T,T,T,T,T,T,F,F,F,F,F,F,F,F,F]
abbrev impl_ValidLog.m30_ : Array Bool := #[T,T,T,T,T,T,T,T,T,T,T,T,T,T,T,T,T,T,T,T,T,T,T,T,T,T,T,T,T,T,F,F,F,F,F,F,F,F]
abbrev impl_ValidLog.m31_ : Array Bool := #[T,T,T,T,T,T,T,T,T,T,T,T,T,T,T,T,T,T,T,T,T,T,T,T,T,T,T,T,T,T,T,F,F,F,F,F,F,F]
abbrev impl_ValidLog.m32_ : Array Bool := #[T,T,T,T,T,T,T,T,T,T,T,T,T,T,T,T,T,T,T,T,T,T,T,T,T,T,T,T,T,T,T,T,F,F,F,F,F,F]
abbrev impl_ValidLog.m33_ : Array Bool := #[T,T,T,T,T,T,T,T,T,T,T,T,T,T,T,T,T,T,T,T,T,T,T,T,T,T,T,T,T,T,T,T,T,F,F,F,F,F]
abbrev impl_ValidLog.m34_ : Array Bool := #[T,T,T,T,T,T,T,T,T,T,T,T,T,T,T,T,T,T,T,T,T,T,T,T,T,T,T,T,T,T,T,T,T,T,F,F,F,F]
abbrev impl_ValidLog.m35_ : Array Bool := #[T,T,T,T,T,T,T,T,T,T,T,T,T,T,T,T,T,T,T,T,T,T,T,T,T,T,T,T,T,T,T,T,T,T,T,F,F,F]
abbrev impl_ValidLog.m36_ : Array Bool := #[T,T,T,T,T,T,T,T,T,T,T,T,T,T,T,T,T,T,T,T,T,T,T,T,T,T,T,T,T,T,T,T,T,T,T,T,F,F]
abbrev impl_ValidLog.m37_ : Array Bool := #[T,T,T,T,T,T,T,T,T,T,T,T,T,T,T,T,T,T,T,T,T,T,T,T,T,T,T,T,T,T,T,T,T,T,T,T,T,F]
abbrev impl_ValidLog.m38_ : Array Bool := #[T,T,T,T,T,T,T,T,T,T,T,T,T,T,T,T,T,T,T,T,T,T,T,T,T,T,T,T,T,T,T,T,T,T,T,T,T,T]
abbrev impl_ValidLog.m39_ : Array Bool := #[T,T,T,T,T,T,T,T,T,T,T,T,T,T,T,F,T,F,F,F,F,F,F,F,F,F,F,F,F,F,F,F,F,F,F,F,F,F]
abbrev impl_ValidLog.m40_ : Array Bool := #[T,T,T,T,T,T,T,T,T,T,T,T,T,T,T,F,T,T,F,F,F,F,F,F,F,F,F,F,F,F,F,F,F,F,F,F,F,F]
abbrev impl_ValidLog.m41_ : Array Bool := #[T,T,T,T,T,T,T,T,T,T,T,T,T,T,T,F,T,T,F,F,F,T,F,F,F,F,F,F,F,F,F,F,F,F,F,F,F,F]
abbrev impl_ValidLog.m42_ : Array Bool := #[T,T,T,T,T,T,T,T,T,T,T,T,T,T,T,T,T,T,F,F,F,T,F,F,F,F,F,F,F,F,F,F,F,F,F,F,F,F]
abbrev impl_ValidLog.m43_ : Array Bool := #[T,T,T,T,T,T,T,T,T,T,T,T,T,T,T,T,T,T,T,F,F,T,F,F,F,F,F,F,F,F,F,F,F,F,F,F,F,F]
abbrev impl_ValidLog.m44_ : Array Bool := #[T,T,T,T,T,T,T,T,T,T,T,T,T,T,T,T,T,T,T,T,F,T,F,F,F,F,F,F,F,F,F,F,F,F,F,F,F,F]
abbrev impl_ValidLog.m45_ : Array Bool := #[T,T,T,T,T,T,T,T,T,T,T,T,T,T,T,T,T,T,T,T,T,T,T,T,T,T,F,T,F,F,F,F,F,F,F,F,F,F]
abbrev impl_ValidLog.m46_ : Array Bool := #[T,T,T,T,T,T,T,T,T,T,T,T,T,T,T,T,T,T,T,T,T,T,T,T,T,T,F,T,T,F,F,F,F,F,F,F,F,F]
abbrev impl_ValidLog.m47_ : Array Bool := #[T,T,T,T,T,T,T,T,T,T,T,T,T,T,T,T,T,T,T,T,T,T,T,T,T,T,F,T,T,F,F,F,T,F,F,F,F,F]
abbrev impl_ValidLog.m48_ : Array Bool := #[T,T,T,T,T,T,T,T,T,T,T,T,T,T,T,T,T,T,T,T,T,T,T,T,T,T,T,T,T,F,F,F,T,F,F,F,F,F]
abbrev impl_ValidLog.m49_ : Array Bool := #[T,T,T,T,T,T,T,T,T,T,T,T,T,T,T,T,T,T,T,T,T,T,T,T,T,T,T,T,T,T,F,F,T,F,F,F,F,F]
abbrev impl_ValidLog.m50_ : Array Bool := #[T,T,T,T,T,T,T,T,T,T,T,T,T,T,T,T,T,T,T,T,T,T,T,T,T,T,T,T,T,T,T,F,T,F,F,F,F,F]
theorem impl_ValidLog.p1_ {P : Prop} (h : P := by simp only [Act.put, List.setIfInBounds_toArray, List.set_cons_zero, List.set_cons_succ, i64_w, i32_w]; rfl) : P := h
theorem impl_ValidLog.b1_ {P Q : Prop} (q : Q) (h : Q → P := by intro q_; (with_reducible repeat (first | refine blk_drewN ?_ _ | refine blk_drew ?_ | refine blk_alloc ?_ _)); exact q_) : P := h q
theorem impl_ValidLog.pu_ {P : Program} {md : Region.Mode} {ops : Array Oper} {Q : Exit → Act → World → Prop} {S : World → Prop} {ds : List Nat} {fuel : Nat} {l : Array Bool} {a : Act} {w : World} {oi : Oper} {a' : Act} {v : Value} (i N : Nat) (l' : Array Bool) (hc : anyB md ops l l' i = true) (h : wpAnyLast P md ops Q S ds fuel l' a' w) (hi : ops[i]? = some oi := by rfl) (hN : oi.dst = some N := by rfl) (hQ : ∀ c a w, Q (.panic c) (a.put oi.dst v) w → Q (.panic c) a w := by exact fun _ _ _ h => h) (hy : Yields P ops oi v a := by exact Or.inl ⟨by rfl, by intro w'; go_simp; with_reducible rfl⟩) (ha : a.put (some N) v = a' := by simp only [Act.put, List.setIfInBounds_toArray, List.set_cons_zero, List.set_cons_succ, i64_w, i32_w]; rfl) : wpAnyLast P md ops Q S ds (fuel + 1) l a w := pure_ l' hi hN hc hQ hy ha h
theorem impl_ValidLog.pn_ {P : Program} {md : Region.Mode} {ops : Array Oper} {Q : Exit → Act → World → Prop} {S : World → Prop} {ds : List Nat} {fuel : Nat} {l : Array Bool} {a : Act} {w : World} {oi : Oper} {a' : Act} (i N : Nat) (l' : Array Bool) (hc : anyB md ops l l' i = true) (h : wpAnyLast P md ops Q S ds fuel l' a' w) (hi : ops[i]? = some oi := by rfl) (hN : oi.dst = some N := by rfl) (hQ : ∀ c a w, Q (.panic c) (a.put oi.dst undef) w → Q (.panic c) a w := by exact fun _ _ _ h => h) (hy : Yields P ops oi undef a := by exact Or.inr ⟨by rfl, rfl⟩) (ha : a.put (some N) undef = a' := by simp only [Act.put, List.setIfInBounds_toArray, List.set_cons_zero, List.set_cons_succ, i64_w, i32_w]; rfl) : wpAnyLast P md ops Q S ds (fuel + 1) l a w := pure_ l' hi hN hc hQ hy ha h
def impl_ValidLog.l0 : Nat → List (S81) → Int → Int → Int → List (S81) → Option (Bool)
  | 0, _, _, _, _, _ => none
  | k + 1, x6, x7, x8, x204000, x204001 => if x8 < x7 then (if 0 ≤ x8 then (if x8 < (x6.length : Int) then ((impl_ValidMessage.f k ((rd_T81 x6 x8).f0) ((rd_T81 x6 x8).f1) ((rd_T81 x6 x8).f2) ((rd_T81 x6 x8).f3) ((rd_T81 x6 x8).f4) ((rd_T81 x6 x8).f5) ((rd_T81 x6 x8).f6) ((rd_T81 x6 x8).f7)).bind fun t206 => (if t206 = true then (if ((rd_T81 x6 x8).f0) ≥ x204000 then (some false) else (if x8 > 0 then (if 0 ≤ (wrap64 (x8 - 1)) then (if (wrap64 (x8 - 1)) < (x204001.length : Int) then (if ((rd_T81 x204001 (wrap64 (x8 - 1))).f0) ≥ ((rd_T81 x6 x8).f0) then (some false) else (if ((rd_T81 x204001 (wrap64 (x8 - 1))).f2) > ((rd_T81 x6 x8).f2) then (some false) else (impl_ValidLog.l0 k x6 x7 (wrap64 (x8 + 1)) x204000 x204001))) else (none)) else (none)) else (impl_ValidLog.l0 k x6 x7 (wrap64 (x8 + 1)) x204000 x204001))) else (some false))) else (none)) else (none)) else (if (x204001.length : Int) ≤ 40 then ((impl_in.f x204000 1 1000000000).bind fun t209 => (some t209)) else (some false))
def impl_ValidLog.f (k : Nat) (a0_0 : Int) (l0_1 : List (S81)) : Option (Bool) := impl_ValidLog.l0 k l0_1 (l0_1.length : Int) 0 a0_0 l0_1
theorem impl_ValidLog.mono_l : ∀ k, (∀ y0 y1 y2 y3 y4, LeO (impl_ValidLog.l0 k y0 y1 y2 y3 y4) (impl_ValidLog.l0 (k + 1) y0 y1 y2 y3 y4))
  | 0 => fun _ _ _ _ _ r h => by simp [impl_ValidLog.l0] at h
  | k + 1 => by
    have ih0 := impl_ValidLog.mono_l k
    · intro y0 y1 y2 y3 y4
      unfold impl_ValidLog.l0
      repeat' first
      | (with_reducible exact ih0 _ _ _ _ _)
      | (with_reducible exact impl_ValidMessage.mono _ _ _ _ _ _ _ _ _)
      | (with_reducible exact LeO.refl _)
      | (with_reducible exact LeO.none _)
      | (with_reducible refine LeO.ite ?_ ?_)
      | (with_reducible refine LeO.bind ?_ (fun _ => ?_))
      | exact ih0 _ _ _ _ _
      | exact impl_ValidMessage.mono _ _ _ _ _ _ _ _ _
      | exact LeO.none _
      | refine LeO.ite ?_ ?_
      | refine LeO.bind ?_ (fun _ => ?_)
theorem impl_ValidLog.mono : ∀ a0 a1 k, LeO (impl_ValidLog.f k a0 a1) (impl_ValidLog.f (k + 1) a0 a1) := by
  intro a0 a1 k
  have ih0 := impl_ValidLog.mono_l k
  unfold impl_ValidLog.f
  repeat' first
      | (with_reducible exact ih0 _ _ _ _ _)
      | (with_reducible exact impl_ValidMessage.mono _ _ _ _ _ _ _ _ _)
      | (with_reducible exact LeO.refl _)
      | (with_reducible exact LeO.none _)
      | (with_reducible refine LeO.ite ?_ ?_)
      | (with_reducible refine LeO.bind ?_ (fun _ => ?_))
      | exact ih0 _ _ _ _ _
      | exact impl_ValidMessage.mono _ _ _ _ _ _ _ _ _
      | exact LeO.none _
      | refine LeO.ite ?_ ?_
      | refine LeO.bind ?_ (fun _ => ?_)
def impl_ValidLog.T4 : Bool × List (List Nat × List Nat) := (true, [([], []), ([0], [0]), ([1], [1]), ([2, 1], [2]), ([3], [3]), ([4, 3], [3, 4]), ([3], [3]), ([6, 3], [3, 6]), ([5, 7, 3], [3, 5, 7]), ([3, 8], [3, 8]), ([9, 3], [9]), ([10], [10]), ([11, 10], [10, 11]), ([12, 10, 10], [10, 12]), ([13], [13]), ([14, 13], [13, 14]), ([13], [13]), ([16, 13], [13, 16]), ([15, 17, 13], [13, 15, 17]), ([18, 13], [13, 18]), ([19, 13], [13, 19]), ([13], [13]), ([21, 13], [13, 21]), ([20, 22, 13], [13, 20, 22]), ([23, 13, 13], [13, 23]), ([24], [24]), ([25, 24], [24, 25]), ([24], [24]), ([27, 24], [24, 27]), ([26, 28, 24], [24, 26, 28]), ([29, 24], [24, 29]), ([30, 24], [24, 30]), ([24], [24]), ([32, 24], [24, 32]), ([31, 33, 24], [24, 31, 33]), ([24, 34, 13], [13, 24, 34]), ([13, 35, 10], [10, 13, 35]), ([10, 36], [10, 36])])
def impl_ValidLog.B4 : List Nat := [0, 1, 3, 7, 15, 31, 15, 79, 255, 511, 1023, 2047, 4095, 8191, 16383, 32767, 16383, 81919, 262143, 524287, 1048575, 16383, 2113535, 8388607, 16777215, 33554431, 67108863, 33554431, 167772159, 536870911, 1073741823, 2147483647, 33554431, 4328521727, 17179869183, 34359738367, 68719476735, 137438953471]
theorem impl_ValidLog.tab4 : rtab .any (opsOf Try.f39 4) = impl_ValidLog.T4 := by kernel_rfl
theorem impl_ValidLog.bits4 : waitsOk impl_ValidLog.T4.2 impl_ValidLog.B4 = true := by kernel_rfl
set_option maxHeartbeats 8000000 in
set_option maxRecDepth 100000 in
theorem impl_ValidLog.calls (k : Nat) (a0_0 : Int) (A0_1 : Option Addr) (c0_1 : Nat) (l0_1 : List (S81)) (r : Bool) (w : World) (hr0_1 : Kd.C k81 w A0_1 l0_1.length l0_1) (hc0_1 : l0_1.length ≤ c0_1) (h : impl_ValidLog.f k a0_0 l0_1 = some r) :
    Calls Try.prog 39 #[.agg #[.int .i64 a0_0, .slice A0_1 l0_1.length c0_1]] w fun e w' => e = .returned (.bool r) ∧ Below w.heap.size w w' := by
 have hu38 := Try.underlying38
 have hu81 := Try.underlying81
 have HR0_1 := Aside0.mk hr0_1
 have HC0_1 := Aside0.mk hc0_1
 clear hr0_1 hc0_1
 have HB := Aside0.mk (Below.refl w.heap.size w)
 have H : (impl_ValidLog.l0 k l0_1 (l0_1.length : Int) 0 a0_0 l0_1) = some r := h
 clear h
 have H' := Aside0.mk H
 clear H
 go_enter Try.func39, Try.ntmps39
 go_wp2_with (first | ((with_reducible refine gate_dst (N := 1) rfl ?_); refine box_event ?hg (N := 1) ?hd (cs := #[.int .i64 a0_0, .slice A0_1 l0_1.length c0_1]) (t := 38) ?hr ?_; (case hd => rfl); (case hg => rfl); (case hr => first | (go_simp; done) | (go_simp; rfl)); intro gb203 hg w2 hbox hb; have n0_ := Aside0.mk (below_step (by repeat (first | (with_reducible first | exact HB.out | apply below_alloc | apply pw_below_drewN | apply below_drew1) | exact HB.out)) hb); have n1_ := Aside0.mk (hbox); have n2_ := Aside0.mk ((by rw [hg]; exact (below_size (by repeat (first | (with_reducible first | exact HB.out | apply below_alloc | apply pw_below_drewN | apply below_drew1) | exact HB.out))) : w.heap.size ≤ gb203)); have n3_ := Aside0.mk ((by rw [hg]; exact (below_size (by repeat (first | (with_reducible first | exact HB.out | apply below_alloc | apply pw_below_drewN | apply below_drew1) | exact HB.out))) : w.heap.size ≤ gb203)); clear HB; have HB := n0_; have BK203 := n1_; have GW203 := n2_; have GE203 := n3_; clear n0_ n1_ n2_ n3_; clear hb hbox hg; have hcz3_0 : w2.cell? ⟨gb203, 0, none⟩ = some (.int .i64 a0_0) := (blk_cell BK203.out 0).trans rfl; have hcz3_1 : w2.cell? ⟨gb203, 1, none⟩ = some (.slice A0_1 l0_1.length c0_1) := (blk_cell BK203.out 1).trans rfl; have hfz3_0 := blk_frozen BK203.out 0; have hfz3_1 := blk_frozen BK203.out 1))
 go_loopg [8] k (fun kq v8 w' => ∃ (x8_1 : Int), v8 = .int .i64 x8_1 ∧ Aside0 (impl_ValidLog.l0 kq l0_1 (l0_1.length : Int) x8_1 a0_0 l0_1 = some r) ∧ Aside0 (kq ≤ k) ∧ Aside0 (w'.heap[gb203]? = some (.cells #[.int .i64 a0_0, (.slice A0_1 l0_1.length c0_1)] 38 (0, 0))) ∧ Aside0 (Below w.heap.size w w'))
 case atStart => exact ⟨(0), s1_, H', ⟨Nat.le_refl _⟩, ⟨b1_ BK203.out⟩, ⟨by repeat (first | (with_reducible first | exact HB.out | apply below_alloc | apply pw_below_drewN | apply below_drew1 | refine below_set ?_ GE203.out) | exact HB.out)⟩⟩
 case round =>
  skip
  {
 clear H'
 try clear p2
 try clear c3
 try clear hcz3_0
 try clear hcz3_1
 try clear hfz3_0
 try clear hfz3_1
 obtain ⟨x8_1, rfl, HA, HK1, BK203, HB⟩ := hrel
 cases gk with
 | zero => exact absurd HA.out (by simp [impl_ValidLog.l0])
 | succ k1 =>
  skip
  {
 have H := HA.out
 clear HA
 simp only [impl_ValidLog.l0] at H
 by_cases c4 : x8_1 < (l0_1.length : Int)
 {
 rw [if_pos c4] at H
 have c4b0 : decide (x8_1 < (l0_1.length : Int)) = true := decide_eq_true c4
 clear c4
 by_cases c5 : 0 ≤ x8_1
 {
 rw [if_pos c5] at H
 have c5b0 : decide (0 ≤ x8_1) = true := decide_eq_true c5
 clear c5
 by_cases c6 : x8_1 < (l0_1.length : Int)
 {
 rw [if_pos c6] at H
 have c6b0 : decide (x8_1 < (l0_1.length : Int)) = true := decide_eq_true c6
 clear c6
 replace H := Option.bind_eq_some_iff.mp H
 obtain ⟨t206, A70, H⟩ := H
 replace H : (if t206 = true then (if ((rd_T81 l0_1 x8_1).f0) ≥ a0_0 then (some false) else (if x8_1 > 0 then (if 0 ≤ (wrap64 (x8_1 - 1)) then (if (wrap64 (x8_1 - 1)) < (l0_1.length : Int) then (if ((rd_T81 l0_1 (wrap64 (x8_1 - 1))).f0) ≥ ((rd_T81 l0_1 x8_1).f0) then (some false) else (if ((rd_T81 l0_1 (wrap64 (x8_1 - 1))).f2) > ((rd_T81 l0_1 x8_1).f2) then (some false) else (impl_ValidLog.l0 k1 l0_1 (l0_1.length : Int) (wrap64 (x8_1 + 1)) a0_0 l0_1))) else (none)) else (none)) else (impl_ValidLog.l0 k1 l0_1 (l0_1.length : Int) (wrap64 (x8_1 + 1)) a0_0 l0_1))) else (some false)) = some r := H
 have A7 := Aside0.mk A70
 clear A70
 by_cases c8 : t206 = true
 {
 subst c8
 have H1 : (if ((rd_T81 l0_1 x8_1).f0) ≥ a0_0 then (some false) else (if x8_1 > 0 then (if 0 ≤ (wrap64 (x8_1 - 1)) then (if (wrap64 (x8_1 - 1)) < (l0_1.length : Int) then (if ((rd_T81 l0_1 (wrap64 (x8_1 - 1))).f0) ≥ ((rd_T81 l0_1 x8_1).f0) then (some false) else (if ((rd_T81 l0_1 (wrap64 (x8_1 - 1))).f2) > ((rd_T81 l0_1 x8_1).f2) then (some false) else (impl_ValidLog.l0 k1 l0_1 (l0_1.length : Int) (wrap64 (x8_1 + 1)) a0_0 l0_1))) else (none)) else (none)) else (impl_ValidLog.l0 k1 l0_1 (l0_1.length : Int) (wrap64 (x8_1 + 1)) a0_0 l0_1))) = some r := by rw [if_pos rfl] at H; exact H
 clear H
 have H := H1
 clear H1
 by_cases c9 : ((rd_T81 l0_1 x8_1).f0) ≥ a0_0
 {
 rw [if_pos c9] at H
 have c9b0 : decide (a0_0 ≤ ((rd_T81 l0_1 x8_1).f0)) = true := decide_eq_true c9
 clear c9
 obtain rfl := Option.some.inj H
 have p204 : 0 ≤ (x8_1 : Int) := of_decide_eq_true (by first | (with_reducible assumption) | assumption)
 have q204 : x8_1 < (l0_1.length : Int) := of_decide_eq_true (by first | (with_reducible assumption) | assumption)
 obtain ⟨ad204, A204_7, c204_7, e204, hx204_0, hx204_1, hx204_2, hx204_3, hx204_4, hx204_5, hx204_6, hx204_7, hl204_7, hi204_7⟩ := at_T81 HR0_1.out x8_1 p204 q204
 cases e204
 replace hx204_0 := (HB.out.cell (World.block_lt_of_cell? w _ hx204_0)).trans hx204_0
 replace hx204_1 := (HB.out.cell (World.block_lt_of_cell? w _ hx204_1)).trans hx204_1
 replace hx204_2 := (HB.out.cell (World.block_lt_of_cell? w _ hx204_2)).trans hx204_2
 replace hx204_3 := (HB.out.cell (World.block_lt_of_cell? w _ hx204_3)).trans hx204_3
 replace hx204_4 := (HB.out.cell (World.block_lt_of_cell? w _ hx204_4)).trans hx204_4
 replace hx204_5 := (HB.out.cell (World.block_lt_of_cell? w _ hx204_5)).trans hx204_5
 replace hx204_6 := (HB.out.cell (World.block_lt_of_cell? w _ hx204_6)).trans hx204_6
 replace hx204_7 := (HB.out.cell (World.block_lt_of_cell? w _ hx204_7)).trans hx204_7
 have HR204_7 := Aside0.mk hi204_7
 have HC204_7 := Aside0.mk hl204_7
 clear hi204_7 hl204_7
 replace p204 := eq_true p204
 replace q204 := eq_true q204
 try go_wp2_with (first | ((with_reducible refine gate_dst (N := 4) rfl ?_); refine box_event ?hg (N := 4) ?hd (cs := #[.int .i64 0, .int .i64 0, .int .i64 0, .string (⟨#[]⟩ : ByteArray), .int .i64 0, .bool false, .int .i64 0, .slice none 0 0]) (t := 81) ?hr ?_; (case hd => rfl); (case hg => rfl); (case hr => first | (go_simp; done) | (go_simp; rfl)); intro gb205 hg w10 hbox hb; have n0_ := Aside0.mk (blk_below (g := gb203) (o := .cells #[.int .i64 a0_0, .slice (some ad204) l0_1.length c0_1] 38 (0, 0)) (b1_ BK203.out) hb); have n1_ := Aside0.mk (below_step (by repeat (first | (with_reducible first | exact HB.out | apply below_alloc | apply pw_below_drewN | apply below_drew1 | refine below_set ?_ GE203.out) | exact HB.out)) hb); have n2_ := Aside0.mk (hbox); have n3_ := Aside0.mk ((by rw [hg]; exact (below_size (by repeat (first | (with_reducible first | exact HB.out | apply below_alloc | apply pw_below_drewN | apply below_drew1 | refine below_set ?_ GE203.out) | exact HB.out))) : w.heap.size ≤ gb205)); have n4_ := Aside0.mk ((by rw [hg]; exact (below_size (by repeat (first | (with_reducible first | exact HB.out | apply below_alloc | apply pw_below_drewN | apply below_drew1 | refine below_set ?_ GE203.out) | exact HB.out))) : w.heap.size ≤ gb205)); have n5_ := Aside0.mk ((by rw [hg]; exact Nat.ne_of_lt (blk_lt (g := gb203) (o := .cells #[.int .i64 a0_0, .slice (some ad204) l0_1.length c0_1] 38 (0, 0)) (b1_ BK203.out)) : gb203 ≠ gb205)); have n6_ := Aside0.mk ((by rw [hg]; exact Nat.ne_of_gt (blk_lt (g := gb203) (o := .cells #[.int .i64 a0_0, .slice (some ad204) l0_1.length c0_1] 38 (0, 0)) (b1_ BK203.out)) : gb205 ≠ gb203)); clear BK203; clear HB; have BK203 := n0_; have HB := n1_; have BK205 := n2_; have GW205 := n3_; have GE205 := n4_; have NB203_205 := n5_; have NB205_203 := n6_; clear n0_ n1_ n2_ n3_ n4_ n5_ n6_; clear hb hbox hg; have hnb11 := NB205_203.out; have hnc11 := NB203_205.out; have hcz12_0 : w10.cell? ⟨gb205, 0, none⟩ = some (.int .i64 0) := (blk_cell BK205.out 0).trans rfl; have hcz12_1 : w10.cell? ⟨gb205, 1, none⟩ = some (.int .i64 0) := (blk_cell BK205.out 1).trans rfl; have hcz12_2 : w10.cell? ⟨gb205, 2, none⟩ = some (.int .i64 0) := (blk_cell BK205.out 2).trans rfl; have hcz12_3 : w10.cell? ⟨gb205, 3, none⟩ = some (.string (⟨#[]⟩ : ByteArray)) := (blk_cell BK205.out 3).trans rfl; have hcz12_4 : w10.cell? ⟨gb205, 4, none⟩ = some (.int .i64 0) := (blk_cell BK205.out 4).trans rfl; have hcz12_5 : w10.cell? ⟨gb205, 5, none⟩ = some (.bool false) := (blk_cell BK205.out 5).trans rfl; have hcz12_6 : w10.cell? ⟨gb205, 6, none⟩ = some (.int .i64 0) := (blk_cell BK205.out 6).trans rfl; have hcz12_7 : w10.cell? ⟨gb205, 7, none⟩ = some (.slice none 0 0) := (blk_cell BK205.out 7).trans rfl; have hfz12_0 := blk_frozen BK205.out 0; have hfz12_1 := blk_frozen BK205.out 1; have hfz12_2 := blk_frozen BK205.out 2; have hfz12_3 := blk_frozen BK205.out 3; have hfz12_4 := blk_frozen BK205.out 4; have hfz12_5 := blk_frozen BK205.out 5; have hfz12_6 := blk_frozen BK205.out 6; have hfz12_7 := blk_frozen BK205.out 7))
 have n0_ : Aside0 (((((((((w10.setCell ⟨gb205, 0, none⟩ (.int .i64 ((rd_T81 l0_1 x8_1).f0))).setCell ⟨gb205, 1, none⟩ (.int .i64 ((rd_T81 l0_1 x8_1).f1))).setCell ⟨gb205, 2, none⟩ (.int .i64 ((rd_T81 l0_1 x8_1).f2))).setCell ⟨gb205, 3, none⟩ (.string ((rd_T81 l0_1 x8_1).f3))).setCell ⟨gb205, 4, none⟩ (.int .i64 ((rd_T81 l0_1 x8_1).f4))).setCell ⟨gb205, 5, none⟩ (.bool ((rd_T81 l0_1 x8_1).f5))).setCell ⟨gb205, 6, none⟩ (.int .i64 ((rd_T81 l0_1 x8_1).f6))).setCell ⟨gb205, 7, none⟩ (.slice A204_7 ((rd_T81 l0_1 x8_1).f7).length c204_7)).heap[gb203]? = some (.cells #[.int .i64 a0_0, .slice (some ad204) l0_1.length c0_1] 38 (0, 0))) := ⟨by (with_reducible repeat (first | refine blk_drewN ?_ _ | refine blk_drew ?_ | refine blk_alloc ?_ _)); refine blk_far ?_ NB203_205.out _; (with_reducible repeat (first | refine blk_drewN ?_ _ | refine blk_drew ?_ | refine blk_alloc ?_ _)); refine blk_far ?_ NB203_205.out _; (with_reducible repeat (first | refine blk_drewN ?_ _ | refine blk_drew ?_ | refine blk_alloc ?_ _)); refine blk_far ?_ NB203_205.out _; (with_reducible repeat (first | refine blk_drewN ?_ _ | refine blk_drew ?_ | refine blk_alloc ?_ _)); refine blk_far ?_ NB203_205.out _; (with_reducible repeat (first | refine blk_drewN ?_ _ | refine blk_drew ?_ | refine blk_alloc ?_ _)); refine blk_far ?_ NB203_205.out _; (with_reducible repeat (first | refine blk_drewN ?_ _ | refine blk_drew ?_ | refine blk_alloc ?_ _)); refine blk_far ?_ NB203_205.out _; (with_reducible repeat (first | refine blk_drewN ?_ _ | refine blk_drew ?_ | refine blk_alloc ?_ _)); refine blk_far ?_ NB203_205.out _; (with_reducible repeat (first | refine blk_drewN ?_ _ | refine blk_drew ?_ | refine blk_alloc ?_ _)); refine blk_far ?_ NB203_205.out _; (with_reducible repeat (first | refine blk_drewN ?_ _ | refine blk_drew ?_ | refine blk_alloc ?_ _)); exact BK203.out⟩
 have n1_ : Aside0 (((((((((w10.setCell ⟨gb205, 0, none⟩ (.int .i64 ((rd_T81 l0_1 x8_1).f0))).setCell ⟨gb205, 1, none⟩ (.int .i64 ((rd_T81 l0_1 x8_1).f1))).setCell ⟨gb205, 2, none⟩ (.int .i64 ((rd_T81 l0_1 x8_1).f2))).setCell ⟨gb205, 3, none⟩ (.string ((rd_T81 l0_1 x8_1).f3))).setCell ⟨gb205, 4, none⟩ (.int .i64 ((rd_T81 l0_1 x8_1).f4))).setCell ⟨gb205, 5, none⟩ (.bool ((rd_T81 l0_1 x8_1).f5))).setCell ⟨gb205, 6, none⟩ (.int .i64 ((rd_T81 l0_1 x8_1).f6))).setCell ⟨gb205, 7, none⟩ (.slice A204_7 ((rd_T81 l0_1 x8_1).f7).length c204_7)).heap[gb205]? = some (.cells #[.int .i64 ((rd_T81 l0_1 x8_1).f0), .int .i64 ((rd_T81 l0_1 x8_1).f1), .int .i64 ((rd_T81 l0_1 x8_1).f2), .string ((rd_T81 l0_1 x8_1).f3), .int .i64 ((rd_T81 l0_1 x8_1).f4), .bool ((rd_T81 l0_1 x8_1).f5), .int .i64 ((rd_T81 l0_1 x8_1).f6), .slice A204_7 ((rd_T81 l0_1 x8_1).f7).length c204_7] 81 (0, 0))) := ⟨by (with_reducible repeat (first | refine blk_drewN ?_ _ | refine blk_drew ?_ | refine blk_alloc ?_ _)); refine blk_put (cs := #[.int .i64 ((rd_T81 l0_1 x8_1).f0), .int .i64 ((rd_T81 l0_1 x8_1).f1), .int .i64 ((rd_T81 l0_1 x8_1).f2), .string ((rd_T81 l0_1 x8_1).f3), .int .i64 ((rd_T81 l0_1 x8_1).f4), .bool ((rd_T81 l0_1 x8_1).f5), .int .i64 ((rd_T81 l0_1 x8_1).f6), .slice none 0 0]) ?_ 7 _ rfl; (with_reducible repeat (first | refine blk_drewN ?_ _ | refine blk_drew ?_ | refine blk_alloc ?_ _)); refine blk_put (cs := #[.int .i64 ((rd_T81 l0_1 x8_1).f0), .int .i64 ((rd_T81 l0_1 x8_1).f1), .int .i64 ((rd_T81 l0_1 x8_1).f2), .string ((rd_T81 l0_1 x8_1).f3), .int .i64 ((rd_T81 l0_1 x8_1).f4), .bool ((rd_T81 l0_1 x8_1).f5), .int .i64 0, .slice none 0 0]) ?_ 6 _ rfl; (with_reducible repeat (first | refine blk_drewN ?_ _ | refine blk_drew ?_ | refine blk_alloc ?_ _)); refine blk_put (cs := #[.int .i64 ((rd_T81 l0_1 x8_1).f0), .int .i64 ((rd_T81 l0_1 x8_1).f1), .int .i64 ((rd_T81 l0_1 x8_1).f2), .string ((rd_T81 l0_1 x8_1).f3), .int .i64 ((rd_T81 l0_1 x8_1).f4), .bool false, .int .i64 0, .slice none 0 0]) ?_ 5 _ rfl; (with_reducible repeat (first | refine blk_drewN ?_ _ | refine blk_drew ?_ | refine blk_alloc ?_ _)); refine blk_put (cs := #[.int .i64 ((rd_T81 l0_1 x8_1).f0), .int .i64 ((rd_T81 l0_1 x8_1).f1), .int .i64 ((rd_T81 l0_1 x8_1).f2), .string ((rd_T81 l0_1 x8_1).f3), .int .i64 0, .bool false, .int .i64 0, .slice none 0 0]) ?_ 4 _ rfl; (with_reducible repeat (first | refine blk_drewN ?_ _ | refine blk_drew ?_ | refine blk_alloc ?_ _)); refine blk_put (cs := #[.int .i64 ((rd_T81 l0_1 x8_1).f0), .int .i64 ((rd_T81 l0_1 x8_1).f1), .int .i64 ((rd_T81 l0_1 x8_1).f2), .string (⟨#[]⟩ : ByteArray), .int .i64 0, .bool false, .int .i64 0, .slice none 0 0]) ?_ 3 _ rfl; (with_reducible repeat (first | refine blk_drewN ?_ _ | refine blk_drew ?_ | refine blk_alloc ?_ _)); refine blk_put (cs := #[.int .i64 ((rd_T81 l0_1 x8_1).f0), .int .i64 ((rd_T81 l0_1 x8_1).f1), .int .i64 0, .string (⟨#[]⟩ : ByteArray), .int .i64 0, .bool false, .int .i64 0, .slice none 0 0]) ?_ 2 _ rfl; (with_reducible repeat (first | refine blk_drewN ?_ _ | refine blk_drew ?_ | refine blk_alloc ?_ _)); refine blk_put (cs := #[.int .i64 ((rd_T81 l0_1 x8_1).f0), .int .i64 0, .int .i64 0, .string (⟨#[]⟩ : ByteArray), .int .i64 0, .bool false, .int .i64 0, .slice none 0 0]) ?_ 1 _ rfl; (with_reducible repeat (first | refine blk_drewN ?_ _ | refine blk_drew ?_ | refine blk_alloc ?_ _)); refine blk_put (cs := #[.int .i64 0, .int .i64 0, .int .i64 0, .string (⟨#[]⟩ : ByteArray), .int .i64 0, .bool false, .int .i64 0, .slice none 0 0]) ?_ 0 _ rfl; (with_reducible repeat (first | refine blk_drewN ?_ _ | refine blk_drew ?_ | refine blk_alloc ?_ _)); exact BK205.out⟩
 have n2_ : Aside0 (Below w.heap.size w ((((((((w10.setCell ⟨gb205, 0, none⟩ (.int .i64 ((rd_T81 l0_1 x8_1).f0))).setCell ⟨gb205, 1, none⟩ (.int .i64 ((rd_T81 l0_1 x8_1).f1))).setCell ⟨gb205, 2, none⟩ (.int .i64 ((rd_T81 l0_1 x8_1).f2))).setCell ⟨gb205, 3, none⟩ (.string ((rd_T81 l0_1 x8_1).f3))).setCell ⟨gb205, 4, none⟩ (.int .i64 ((rd_T81 l0_1 x8_1).f4))).setCell ⟨gb205, 5, none⟩ (.bool ((rd_T81 l0_1 x8_1).f5))).setCell ⟨gb205, 6, none⟩ (.int .i64 ((rd_T81 l0_1 x8_1).f6))).setCell ⟨gb205, 7, none⟩ (.slice A204_7 ((rd_T81 l0_1 x8_1).f7).length c204_7))) := ⟨by repeat (first | (with_reducible first | exact HB.out | apply below_alloc | apply pw_below_drewN | apply below_drew1 | refine below_set ?_ GE203.out | refine below_set ?_ GE205.out) | exact HB.out)⟩
 (try clear BK203)
 (try clear BK205)
 (try clear HB)
 generalize ((((((((w10.setCell ⟨gb205, 0, none⟩ (.int .i64 ((rd_T81 l0_1 x8_1).f0))).setCell ⟨gb205, 1, none⟩ (.int .i64 ((rd_T81 l0_1 x8_1).f1))).setCell ⟨gb205, 2, none⟩ (.int .i64 ((rd_T81 l0_1 x8_1).f2))).setCell ⟨gb205, 3, none⟩ (.string ((rd_T81 l0_1 x8_1).f3))).setCell ⟨gb205, 4, none⟩ (.int .i64 ((rd_T81 l0_1 x8_1).f4))).setCell ⟨gb205, 5, none⟩ (.bool ((rd_T81 l0_1 x8_1).f5))).setCell ⟨gb205, 6, none⟩ (.int .i64 ((rd_T81 l0_1 x8_1).f6))).setCell ⟨gb205, 7, none⟩ (.slice A204_7 ((rd_T81 l0_1 x8_1).f7).length c204_7)) = w13 at n0_ n1_ n2_ ⊢
 have BK203 := n0_
 have BK205 := n1_
 have HB := n2_
 clear n0_ n1_ n2_
 have n0_ := Aside0.mk (blk_drew BK203.out)
 have n1_ := Aside0.mk (blk_drew BK205.out)
 have n2_ := Aside0.mk (below_drew1 HB.out)
 clear BK203
 clear BK205
 clear HB
 have BK203 := n0_
 have BK205 := n1_
 have HB := n2_
 clear n0_ n1_ n2_
 refine start_ (n := 38) (S := fun w' => w'.cell? ⟨gb205, 0, none⟩ = some (.int .i64 ((rd_T81 l0_1 x8_1).f0)) ∧ w'.cell? ⟨gb205, 1, none⟩ = some (.int .i64 ((rd_T81 l0_1 x8_1).f1)) ∧ w'.cell? ⟨gb205, 2, none⟩ = some (.int .i64 ((rd_T81 l0_1 x8_1).f2)) ∧ w'.cell? ⟨gb205, 3, none⟩ = some (.string ((rd_T81 l0_1 x8_1).f3)) ∧ w'.cell? ⟨gb205, 4, none⟩ = some (.int .i64 ((rd_T81 l0_1 x8_1).f4)) ∧ w'.cell? ⟨gb205, 5, none⟩ = some (.bool ((rd_T81 l0_1 x8_1).f5)) ∧ w'.cell? ⟨gb205, 6, none⟩ = some (.int .i64 ((rd_T81 l0_1 x8_1).f6)) ∧ w'.cell? ⟨gb205, 7, none⟩ = some (.slice A204_7 ((rd_T81 l0_1 x8_1).f7).length c204_7) ∧ w'.cell? ⟨gb203, 0, none⟩ = some (.int .i64 a0_0) ∧ w'.cell? ⟨gb203, 1, none⟩ = some (.slice (some ad204) l0_1.length c0_1)) (ds := []) m0_ s2_ rfl rfl ⟨(blk_cell BK205.out 0).trans rfl, (blk_cell BK205.out 1).trans rfl, (blk_cell BK205.out 2).trans rfl, (blk_cell BK205.out 3).trans rfl, (blk_cell BK205.out 4).trans rfl, (blk_cell BK205.out 5).trans rfl, (blk_cell BK205.out 6).trans rfl, (blk_cell BK205.out 7).trans rfl, (blk_cell BK203.out 0).trans rfl, (blk_cell BK203.out 1).trans rfl⟩ (fun hHeld => ?_); refine with_tabW impl_ValidLog.tab4 impl_ValidLog.bits4 (fun HT_ HW_ => ?_)
 generalize w13.drew = w14 at BK203 BK205 HB hHeld ⊢
 refine take_ (i := 0) (N := some 13) (v := ?_) (a' := ?_) m1_ rfl rfl (take_ofW HT_.out HW_.out s2_) (fun _ _ _ h => h) (Or.inl ⟨by rfl, ?_⟩) hHeld ?_ ?_
 rotate_left
 {
 rintro w' ⟨s0, s1, s2, s3, s4, s5, s6, s7, s8, s9⟩
 go_simp
 with_reducible rfl}
 rotate_left
 · exact p1_
 refine one_ (i := 1) (N := some 14) m2_ rfl rfl (one_of HT_.out s2_) (by decide) (fun K hK => ?_)
 refine goes_ Try.func59 s2_ rfl #[.agg #[.int .i64 ((rd_T81 l0_1 x8_1).f0), .int .i64 ((rd_T81 l0_1 x8_1).f1), .int .i64 ((rd_T81 l0_1 x8_1).f2), .string ((rd_T81 l0_1 x8_1).f3), .int .i64 ((rd_T81 l0_1 x8_1).f4), .bool ((rd_T81 l0_1 x8_1).f5), .int .i64 ((rd_T81 l0_1 x8_1).f6), .slice A204_7 ((rd_T81 l0_1 x8_1).f7).length c204_7]] (by rfl) rfl rfl s3_ ?_
 with_reducible refine (impl_ValidMessage.calls k1 ((rd_T81 l0_1 x8_1).f0) ((rd_T81 l0_1 x8_1).f1) ((rd_T81 l0_1 x8_1).f2) ((rd_T81 l0_1 x8_1).f3) ((rd_T81 l0_1 x8_1).f4) ((rd_T81 l0_1 x8_1).f5) ((rd_T81 l0_1 x8_1).f6) _ _ ((rd_T81 l0_1 x8_1).f7) true _ ?side1 ?side2 A7.out).mono ?_
 (case side1 => repeat (first | exact (Kd.C_below HR204_7.out HB.out) | (with_reducible refine Kd.C_alloc ?_ _) | (with_reducible refine Kd.C_drewN ?_ _) | (with_reducible refine Kd.C_drew ?_)))
 (case side2 => exact HC204_7.out)
 rintro e w15 ⟨rfl, hb⟩
 refine ⟨_, rfl, ?_⟩
 have n0_ := Aside0.mk (blk_below (g := gb203) (o := .cells #[.int .i64 a0_0, .slice (some ad204) l0_1.length c0_1] 38 (0, 0)) (b1_ BK203.out) hb)
 have n1_ := Aside0.mk (blk_below (g := gb205) (o := .cells #[.int .i64 ((rd_T81 l0_1 x8_1).f0), .int .i64 ((rd_T81 l0_1 x8_1).f1), .int .i64 ((rd_T81 l0_1 x8_1).f2), .string ((rd_T81 l0_1 x8_1).f3), .int .i64 ((rd_T81 l0_1 x8_1).f4), .bool ((rd_T81 l0_1 x8_1).f5), .int .i64 ((rd_T81 l0_1 x8_1).f6), .slice A204_7 ((rd_T81 l0_1 x8_1).f7).length c204_7] 81 (0, 0)) (b1_ BK205.out) hb)
 have n2_ := Aside0.mk (below_step (by repeat (first | (with_reducible first | exact HB.out | apply below_alloc | apply pw_below_drewN | apply below_drew1 | refine below_set ?_ GE203.out | refine below_set ?_ GE205.out) | exact HB.out)) hb)
 clear BK203
 clear BK205
 clear HB
 have BK203 := n0_
 have BK205 := n1_
 have HB := n2_
 clear n0_ n1_ n2_
 (try clear hb)
 (try clear hb2)
 (try clear hk)
 (try clear hi)
 refine hK.out _ _ ⟨(blk_cell BK205.out 0).trans rfl, (blk_cell BK205.out 1).trans rfl, (blk_cell BK205.out 2).trans rfl, (blk_cell BK205.out 3).trans rfl, (blk_cell BK205.out 4).trans rfl, (blk_cell BK205.out 5).trans rfl, (blk_cell BK205.out 6).trans rfl, (blk_cell BK205.out 7).trans rfl, (blk_cell BK203.out 0).trans rfl, (blk_cell BK203.out 1).trans rfl⟩ (fun hHeld => ?_)
 clear hK K
 refine norm_ (a' := ?_) ?_ ?_
 rotate_left
 {
 show Act.put _ (some 14) _ = _
 simp only [Act.put, List.setIfInBounds_toArray, List.set_cons_zero, List.set_cons_succ, i64_w, i32_w]
 rfl}
 refine pu_ 2 15 m3_ (any_of HT_.out s2_) ?_
 refine pu_ 3 16 m4_ (any_of HT_.out s2_) ?_
 refine pu_ 4 17 m5_ (any_of HT_.out s2_) ?_
 refine pu_ 6 19 m6_ (any_of HT_.out s2_) ?_
 refine take_ (i := 5) (N := some 18) (v := ?_) (a' := ?_) m7_ rfl rfl (take_ofW HT_.out HW_.out s2_) (fun _ _ _ h => h) (Or.inl ⟨by rfl, ?_⟩) hHeld ?_ ?_
 rotate_left
 {
 rintro w' ⟨s0, s1, s2, s3, s4, s5, s6, s7, s8, s9⟩
 go_simp
 with_reducible rfl}
 rotate_left
 · exact p1_
 refine take_ (i := 7) (N := some 20) (v := ?_) (a' := ?_) m8_ rfl rfl (take_ofW HT_.out HW_.out s2_) (fun _ _ _ h => h) (Or.inl ⟨by rfl, ?_⟩) hHeld ?_ ?_
 rotate_left
 {
 rintro w' ⟨s0, s1, s2, s3, s4, s5, s6, s7, s8, s9⟩
 go_simp
 with_reducible rfl}
 rotate_left
 · exact p1_
 refine pu_ 8 21 m9_ (any_of HT_.out s2_) ?_
 refine pu_ 9 22 m10_ (any_of HT_.out s2_) ?_
 refine pu_ 10 23 m11_ (any_of HT_.out s2_) ?_
 refine pn_ 11 24 m12_ (any_of HT_.out s2_) ?_
 refine pn_ 12 25 m13_ (any_of HT_.out s2_) ?_
 refine pn_ 13 26 m14_ (any_of HT_.out s2_) ?_
 refine pn_ 14 27 m15_ (any_of HT_.out s2_) ?_
 refine pn_ 15 28 m16_ (any_of HT_.out s2_) ?_
 refine pn_ 16 29 m17_ (any_of HT_.out s2_) ?_
 refine pn_ 17 30 m18_ (any_of HT_.out s2_) ?_
 refine pn_ 18 31 m19_ (any_of HT_.out s2_) ?_
 refine pn_ 19 32 m20_ (any_of HT_.out s2_) ?_
 refine pn_ 20 33 m21_ (any_of HT_.out s2_) ?_
 refine pn_ 21 34 m22_ (any_of HT_.out s2_) ?_
 refine pn_ 22 35 m23_ (any_of HT_.out s2_) ?_
 refine pn_ 23 36 m24_ (any_of HT_.out s2_) ?_
 refine pn_ 24 37 m25_ (any_of HT_.out s2_) ?_
 refine pn_ 25 38 m26_ (any_of HT_.out s2_) ?_
 refine pn_ 26 39 m27_ (any_of HT_.out s2_) ?_
 refine pn_ 27 40 m28_ (any_of HT_.out s2_) ?_
 refine pn_ 28 41 m29_ (any_of HT_.out s2_) ?_
 refine pn_ 29 42 m30_ (any_of HT_.out s2_) ?_
 refine pn_ 30 43 m31_ (any_of HT_.out s2_) ?_
 refine pn_ 31 44 m32_ (any_of HT_.out s2_) ?_
 refine pn_ 32 45 m33_ (any_of HT_.out s2_) ?_
 refine pn_ 33 46 m34_ (any_of HT_.out s2_) ?_
 refine pn_ 34 47 m35_ (any_of HT_.out s2_) ?_
 refine pn_ 35 48 m36_ (any_of HT_.out s2_) ?_
 refine pn_ 36 49 m37_ (any_of HT_.out s2_) ?_
 refine pu_ 37 50 m38_ (any_of HT_.out s2_) ?_
 refine done_ (done_of HT_.out s2_) ?_
 try go_wp2
 go_ret
 exact ⟨by first | rfl | (simp [errW_none, errW_some] <;> rfl) | (simp [*, errW_none, errW_some] <;> rfl), by repeat (first | (with_reducible first | exact HB.out | apply below_alloc | apply pw_below_drewN | apply below_drew1 | refine below_set ?_ GE203.out | refine below_set ?_ GE205.out) | exact HB.out)⟩}
 {
 rw [if_neg c9] at H
 have c9b0 : decide (a0_0 ≤ ((rd_T81 l0_1 x8_1).f0)) = false := decide_eq_false c9
 clear c9
 by_cases c16 : x8_1 > 0
 {
 rw [if_pos c16] at H
 have c16b0 : decide (0 < x8_1) = true := decide_eq_true c16
 clear c16
 obtain ⟨ji17, hji17⟩ : ∃ j_ : Int, (wrap64 (x8_1 - 1)) = j_ := ⟨_, rfl⟩
 replace H : (if 0 ≤ (ji17) then (if (ji17) < (l0_1.length : Int) then (if ((rd_T81 l0_1 (ji17)).f0) ≥ ((rd_T81 l0_1 x8_1).f0) then (some false) else (if ((rd_T81 l0_1 (ji17)).f2) > ((rd_T81 l0_1 x8_1).f2) then (some false) else (impl_ValidLog.l0 k1 l0_1 (l0_1.length : Int) (wrap64 (x8_1 + 1)) a0_0 l0_1))) else (none)) else (none)) = some r := by first | (rw [hji17] at H; exact H) | (simp only [hji17] at H ⊢; exact H)
 (try rw [hji17] at A7)
 have hji17w : (IntKind.i64.wrap (x8_1 - 1)) = ji17 := (i64_w _).trans hji17
 by_cases c18 : 0 ≤ (ji17)
 {
 rw [if_pos c18] at H
 have c18b0 : decide (0 ≤ (ji17)) = true := decide_eq_true c18
 clear c18
 by_cases c19 : (ji17) < (l0_1.length : Int)
 {
 rw [if_pos c19] at H
 have c19b0 : decide ((ji17) < (l0_1.length : Int)) = true := decide_eq_true c19
 clear c19
 by_cases c20 : ((rd_T81 l0_1 (ji17)).f0) ≥ ((rd_T81 l0_1 x8_1).f0)
 {
 rw [if_pos c20] at H
 have c20b0 : decide (((rd_T81 l0_1 x8_1).f0) ≤ ((rd_T81 l0_1 (ji17)).f0)) = true := decide_eq_true c20
 clear c20
 obtain rfl := Option.some.inj H
 have p204 : 0 ≤ (x8_1 : Int) := of_decide_eq_true (by first | (with_reducible assumption) | assumption)
 have q204 : x8_1 < (l0_1.length : Int) := of_decide_eq_true (by first | (with_reducible assumption) | assumption)
 obtain ⟨ad204, A204_7, c204_7, e204, hx204_0, hx204_1, hx204_2, hx204_3, hx204_4, hx204_5, hx204_6, hx204_7, hl204_7, hi204_7⟩ := at_T81 HR0_1.out x8_1 p204 q204
 cases e204
 replace hx204_0 := (HB.out.cell (World.block_lt_of_cell? w _ hx204_0)).trans hx204_0
 replace hx204_1 := (HB.out.cell (World.block_lt_of_cell? w _ hx204_1)).trans hx204_1
 replace hx204_2 := (HB.out.cell (World.block_lt_of_cell? w _ hx204_2)).trans hx204_2
 replace hx204_3 := (HB.out.cell (World.block_lt_of_cell? w _ hx204_3)).trans hx204_3
 replace hx204_4 := (HB.out.cell (World.block_lt_of_cell? w _ hx204_4)).trans hx204_4
 replace hx204_5 := (HB.out.cell (World.block_lt_of_cell? w _ hx204_5)).trans hx204_5
 replace hx204_6 := (HB.out.cell (World.block_lt_of_cell? w _ hx204_6)).trans hx204_6
 replace hx204_7 := (HB.out.cell (World.block_lt_of_cell? w _ hx204_7)).trans hx204_7
 have HR204_7 := Aside0.mk hi204_7
 have HC204_7 := Aside0.mk hl204_7
 clear hi204_7 hl204_7
 replace p204 := eq_true p204
 replace q204 := eq_true q204
 try go_wp2_with (first | ((with_reducible refine gate_dst (N := 4) rfl ?_); refine box_event ?hg (N := 4) ?hd (cs := #[.int .i64 0, .int .i64 0, .int .i64 0, .string (⟨#[]⟩ : ByteArray), .int .i64 0, .bool false, .int .i64 0, .slice none 0 0]) (t := 81) ?hr ?_; (case hd => rfl); (case hg => rfl); (case hr => first | (go_simp; done) | (go_simp; rfl)); intro gb205 hg w21 hbox hb; have n0_ := Aside0.mk (blk_below (g := gb203) (o := .cells #[.int .i64 a0_0, .slice (some ad204) l0_1.length c0_1] 38 (0, 0)) (b1_ BK203.out) hb); have n1_ := Aside0.mk (below_step (by repeat (first | (with_reducible first | exact HB.out | apply below_alloc | apply pw_below_drewN | apply below_drew1 | refine below_set ?_ GE203.out) | exact HB.out)) hb); have n2_ := Aside0.mk (hbox); have n3_ := Aside0.mk ((by rw [hg]; exact (below_size (by repeat (first | (with_reducible first | exact HB.out | apply below_alloc | apply pw_below_drewN | apply below_drew1 | refine below_set ?_ GE203.out) | exact HB.out))) : w.heap.size ≤ gb205)); have n4_ := Aside0.mk ((by rw [hg]; exact (below_size (by repeat (first | (with_reducible first | exact HB.out | apply below_alloc | apply pw_below_drewN | apply below_drew1 | refine below_set ?_ GE203.out) | exact HB.out))) : w.heap.size ≤ gb205)); have n5_ := Aside0.mk ((by rw [hg]; exact Nat.ne_of_lt (blk_lt (g := gb203) (o := .cells #[.int .i64 a0_0, .slice (some ad204) l0_1.length c0_1] 38 (0, 0)) (b1_ BK203.out)) : gb203 ≠ gb205)); have n6_ := Aside0.mk ((by rw [hg]; exact Nat.ne_of_gt (blk_lt (g := gb203) (o := .cells #[.int .i64 a0_0, .slice (some ad204) l0_1.length c0_1] 38 (0, 0)) (b1_ BK203.out)) : gb205 ≠ gb203)); clear BK203; clear HB; have BK203 := n0_; have HB := n1_; have BK205 := n2_; have GW205 := n3_; have GE205 := n4_; have NB203_205 := n5_; have NB205_203 := n6_; clear n0_ n1_ n2_ n3_ n4_ n5_ n6_; clear hb hbox hg; have hnb22 := NB205_203.out; have hnc22 := NB203_205.out; have hcz23_0 : w21.cell? ⟨gb205, 0, none⟩ = some (.int .i64 0) := (blk_cell BK205.out 0).trans rfl; have hcz23_1 : w21.cell? ⟨gb205, 1, none⟩ = some (.int .i64 0) := (blk_cell BK205.out 1).trans rfl; have hcz23_2 : w21.cell? ⟨gb205, 2, none⟩ = some (.int .i64 0) := (blk_cell BK205.out 2).trans rfl; have hcz23_3 : w21.cell? ⟨gb205, 3, none⟩ = some (.string (⟨#[]⟩ : ByteArray)) := (blk_cell BK205.out 3).trans rfl; have hcz23_4 : w21.cell? ⟨gb205, 4, none⟩ = some (.int .i64 0) := (blk_cell BK205.out 4).trans rfl; have hcz23_5 : w21.cell? ⟨gb205, 5, none⟩ = some (.bool false) := (blk_cell BK205.out 5).trans rfl; have hcz23_6 : w21.cell? ⟨gb205, 6, none⟩ = some (.int .i64 0) := (blk_cell BK205.out 6).trans rfl; have hcz23_7 : w21.cell? ⟨gb205, 7, none⟩ = some (.slice none 0 0) := (blk_cell BK205.out 7).trans rfl; have hfz23_0 := blk_frozen BK205.out 0; have hfz23_1 := blk_frozen BK205.out 1; have hfz23_2 := blk_frozen BK205.out 2; have hfz23_3 := blk_frozen BK205.out 3; have hfz23_4 := blk_frozen BK205.out 4; have hfz23_5 := blk_frozen BK205.out 5; have hfz23_6 := blk_frozen BK205.out 6; have hfz23_7 := blk_frozen BK205.out 7))
 have n0_ : Aside0 (((((((((w21.setCell ⟨gb205, 0, none⟩ (.int .i64 ((rd_T81 l0_1 x8_1).f0))).setCell ⟨gb205, 1, none⟩ (.int .i64 ((rd_T81 l0_1 x8_1).f1))).setCell ⟨gb205, 2, none⟩ (.int .i64 ((rd_T81 l0_1 x8_1).f2))).setCell ⟨gb205, 3, none⟩ (.string ((rd_T81 l0_1 x8_1).f3))).setCell ⟨gb205, 4, none⟩ (.int .i64 ((rd_T81 l0_1 x8_1).f4))).setCell ⟨gb205, 5, none⟩ (.bool ((rd_T81 l0_1 x8_1).f5))).setCell ⟨gb205, 6, none⟩ (.int .i64 ((rd_T81 l0_1 x8_1).f6))).setCell ⟨gb205, 7, none⟩ (.slice A204_7 ((rd_T81 l0_1 x8_1).f7).length c204_7)).heap[gb203]? = some (.cells #[.int .i64 a0_0, .slice (some ad204) l0_1.length c0_1] 38 (0, 0))) := ⟨by (with_reducible repeat (first | refine blk_drewN ?_ _ | refine blk_drew ?_ | refine blk_alloc ?_ _)); refine blk_far ?_ NB203_205.out _; (with_reducible repeat (first | refine blk_drewN ?_ _ | refine blk_drew ?_ | refine blk_alloc ?_ _)); refine blk_far ?_ NB203_205.out _; (with_reducible repeat (first | refine blk_drewN ?_ _ | refine blk_drew ?_ | refine blk_alloc ?_ _)); refine blk_far ?_ NB203_205.out _; (with_reducible repeat (first | refine blk_drewN ?_ _ | refine blk_drew ?_ | refine blk_alloc ?_ _)); refine blk_far ?_ NB203_205.out _; (with_reducible repeat (first | refine blk_drewN ?_ _ | refine blk_drew ?_ | refine blk_alloc ?_ _)); refine blk_far ?_ NB203_205.out _; (with_reducible repeat (first | refine blk_drewN ?_ _ | refine blk_drew ?_ | refine blk_alloc ?_ _)); refine blk_far ?_ NB203_205.out _; (with_reducible repeat (first | refine blk_drewN ?_ _ | refine blk_drew ?_ | refine blk_alloc ?_ _)); refine blk_far ?_ NB203_205.out _; (with_reducible repeat (first | refine blk_drewN ?_ _ | refine blk_drew ?_ | refine blk_alloc ?_ _)); refine blk_far ?_ NB203_205.out _; (with_reducible repeat (first | refine blk_drewN ?_ _ | refine blk_drew ?_ | refine blk_alloc ?_ _)); exact BK203.out⟩
 have n1_ : Aside0 (((((((((w21.setCell ⟨gb205, 0, none⟩ (.int .i64 ((rd_T81 l0_1 x8_1).f0))).setCell ⟨gb205, 1, none⟩ (.int .i64 ((rd_T81 l0_1 x8_1).f1))).setCell ⟨gb205, 2, none⟩ (.int .i64 ((rd_T81 l0_1 x8_1).f2))).setCell ⟨gb205, 3, none⟩ (.string ((rd_T81 l0_1 x8_1).f3))).setCell ⟨gb205, 4, none⟩ (.int .i64 ((rd_T81 l0_1 x8_1).f4))).setCell ⟨gb205, 5, none⟩ (.bool ((rd_T81 l0_1 x8_1).f5))).setCell ⟨gb205, 6, none⟩ (.int .i64 ((rd_T81 l0_1 x8_1).f6))).setCell ⟨gb205, 7, none⟩ (.slice A204_7 ((rd_T81 l0_1 x8_1).f7).length c204_7)).heap[gb205]? = some (.cells #[.int .i64 ((rd_T81 l0_1 x8_1).f0), .int .i64 ((rd_T81 l0_1 x8_1).f1), .int .i64 ((rd_T81 l0_1 x8_1).f2), .string ((rd_T81 l0_1 x8_1).f3), .int .i64 ((rd_T81 l0_1 x8_1).f4), .bool ((rd_T81 l0_1 x8_1).f5), .int .i64 ((rd_T81 l0_1 x8_1).f6), .slice A204_7 ((rd_T81 l0_1 x8_1).f7).length c204_7] 81 (0, 0))) := ⟨by (with_reducible repeat (first | refine blk_drewN ?_ _ | refine blk_drew ?_ | refine blk_alloc ?_ _)); refine blk_put (cs := #[.int .i64 ((rd_T81 l0_1 x8_1).f0), .int .i64 ((rd_T81 l0_1 x8_1).f1), .int .i64 ((rd_T81 l0_1 x8_1).f2), .string ((rd_T81 l0_1 x8_1).f3), .int .i64 ((rd_T81 l0_1 x8_1).f4), .bool ((rd_T81 l0_1 x8_1).f5), .int .i64 ((rd_T81 l0_1 x8_1).f6), .slice none 0 0]) ?_ 7 _ rfl; (with_reducible repeat (first | refine blk_drewN ?_ _ | refine blk_drew ?_ | refine blk_alloc ?_ _)); refine blk_put (cs := #[.int .i64 ((rd_T81 l0_1 x8_1).f0), .int .i64 ((rd_T81 l0_1 x8_1).f1), .int .i64 ((rd_T81 l0_1 x8_1).f2), .string ((rd_T81 l0_1 x8_1).f3), .int .i64 ((rd_T81 l0_1 x8_1).f4), .bool ((rd_T81 l0_1 x8_1).f5), .int .i64 0, .slice none 0 0]) ?_ 6 _ rfl; (with_reducible repeat (first | refine blk_drewN ?_ _ | refine blk_drew ?_ | refine blk_alloc ?_ _)); refine blk_put (cs := #[.int .i64 ((rd_T81 l0_1 x8_1).f0), .int .i64 ((rd_T81 l0_1 x8_1).f1), .int .i64 ((rd_T81 l0_1 x8_1).f2), .string ((rd_T81 l0_1 x8_1).f3), .int .i64 ((rd_T81 l0_1 x8_1).f4), .bool false, .int .i64 0, .slice none 0 0]) ?_ 5 _ rfl; (with_reducible repeat (first | refine blk_drewN ?_ _ | refine blk_drew ?_ | refine blk_alloc ?_ _)); refine blk_put (cs := #[.int .i64 ((rd_T81 l0_1 x8_1).f0), .int .i64 ((rd_T81 l0_1 x8_1).f1), .int .i64 ((rd_T81 l0_1 x8_1).f2), .string ((rd_T81 l0_1 x8_1).f3), .int .i64 0, .bool false, .int .i64 0, .slice none 0 0]) ?_ 4 _ rfl; (with_reducible repeat (first | refine blk_drewN ?_ _ | refine blk_drew ?_ | refine blk_alloc ?_ _)); refine blk_put (cs := #[.int .i64 ((rd_T81 l0_1 x8_1).f0), .int .i64 ((rd_T81 l0_1 x8_1).f1), .int .i64 ((rd_T81 l0_1 x8_1).f2), .string (⟨#[]⟩ : ByteArray), .int .i64 0, .bool false, .int .i64 0, .slice none 0 0]) ?_ 3 _ rfl; (with_reducible repeat (first | refine blk_drewN ?_ _ | refine blk_drew ?_ | refine blk_alloc ?_ _)); refine blk_put (cs := #[.int .i64 ((rd_T81 l0_1 x8_1).f0), .int .i64 ((rd_T81 l0_1 x8_1).f1), .int .i64 0, .string (⟨#[]⟩ : ByteArray), .int .i64 0, .bool false, .int .i64 0, .slice none 0 0]) ?_ 2 _ rfl; (with_reducible repeat (first | refine blk_drewN ?_ _ | refine blk_drew ?_ | refine blk_alloc ?_ _)); refine blk_put (cs := #[.int .i64 ((rd_T81 l0_1 x8_1).f0), .int .i64 0, .int .i64 0, .string (⟨#[]⟩ : ByteArray), .int .i64 0, .bool false, .int .i64 0, .slice none 0 0]) ?_ 1 _ rfl; (with_reducible repeat (first | refine blk_drewN ?_ _ | refine blk_drew ?_ | refine blk_alloc ?_ _)); refine blk_put (cs := #[.int .i64 0, .int .i64 0, .int .i64 0, .string (⟨#[]⟩ : ByteArray), .int .i64 0, .bool false, .int .i64 0, .slice none 0 0]) ?_ 0 _ rfl; (with_reducible repeat (first | refine blk_drewN ?_ _ | refine blk_drew ?_ | refine blk_alloc ?_ _)); exact BK205.out⟩
 have n2_ : Aside0 (Below w.heap.size w ((((((((w21.setCell ⟨gb205, 0, none⟩ (.int .i64 ((rd_T81 l0_1 x8_1).f0))).setCell ⟨gb205, 1, none⟩ (.int .i64 ((rd_T81 l0_1 x8_1).f1))).setCell ⟨gb205, 2, none⟩ (.int .i64 ((rd_T81 l0_1 x8_1).f2))).setCell ⟨gb205, 3, none⟩ (.string ((rd_T81 l0_1 x8_1).f3))).setCell ⟨gb205, 4, none⟩ (.int .i64 ((rd_T81 l0_1 x8_1).f4))).setCell ⟨gb205, 5, none⟩ (.bool ((rd_T81 l0_1 x8_1).f5))).setCell ⟨gb205, 6, none⟩ (.int .i64 ((rd_T81 l0_1 x8_1).f6))).setCell ⟨gb205, 7, none⟩ (.slice A204_7 ((rd_T81 l0_1 x8_1).f7).length c204_7))) := ⟨by repeat (first | (with_reducible first | exact HB.out | apply below_alloc | apply pw_below_drewN | apply below_drew1 | refine below_set ?_ GE203.out | refine below_set ?_ GE205.out) | exact HB.out)⟩
 (try clear BK203)
 (try clear BK205)
 (try clear HB)
 generalize ((((((((w21.setCell ⟨gb205, 0, none⟩ (.int .i64 ((rd_T81 l0_1 x8_1).f0))).setCell ⟨gb205, 1, none⟩ (.int .i64 ((rd_T81 l0_1 x8_1).f1))).setCell ⟨gb205, 2, none⟩ (.int .i64 ((rd_T81 l0_1 x8_1).f2))).setCell ⟨gb205, 3, none⟩ (.string ((rd_T81 l0_1 x8_1).f3))).setCell ⟨gb205, 4, none⟩ (.int .i64 ((rd_T81 l0_1 x8_1).f4))).setCell ⟨gb205, 5, none⟩ (.bool ((rd_T81 l0_1 x8_1).f5))).setCell ⟨gb205, 6, none⟩ (.int .i64 ((rd_T81 l0_1 x8_1).f6))).setCell ⟨gb205, 7, none⟩ (.slice A204_7 ((rd_T81 l0_1 x8_1).f7).length c204_7)) = w24 at n0_ n1_ n2_ ⊢
 have BK203 := n0_
 have BK205 := n1_
 have HB := n2_
 clear n0_ n1_ n2_
 have n0_ := Aside0.mk (blk_drew BK203.out)
 have n1_ := Aside0.mk (blk_drew BK205.out)
 have n2_ := Aside0.mk (below_drew1 HB.out)
 clear BK203
 clear BK205
 clear HB
 have BK203 := n0_
 have BK205 := n1_
 have HB := n2_
 clear n0_ n1_ n2_
 have p207 : 0 ≤ ((ji17) : Int) := of_decide_eq_true (by first | (with_reducible assumption) | assumption)
 have q207 : (ji17) < (l0_1.length : Int) := of_decide_eq_true (by first | (with_reducible assumption) | assumption)
 obtain ⟨ad207, A207_7, c207_7, e207, hx207_0, hx207_1, hx207_2, hx207_3, hx207_4, hx207_5, hx207_6, hx207_7, hl207_7, hi207_7⟩ := at_T81 HR0_1.out (ji17) p207 q207
 have hw207_7 := hx207_7
 have hw207_6 := hx207_6
 have hw207_5 := hx207_5
 have hw207_4 := hx207_4
 have hw207_3 := hx207_3
 have hw207_2 := hx207_2
 have hw207_1 := hx207_1
 have hw207_0 := hx207_0
 obtain rfl : ad204 = ad207 := (by injection e207)
 replace hx207_0 := (HB.out.cell (World.block_lt_of_cell? w _ hx207_0)).trans hx207_0
 replace hx207_1 := (HB.out.cell (World.block_lt_of_cell? w _ hx207_1)).trans hx207_1
 replace hx207_2 := (HB.out.cell (World.block_lt_of_cell? w _ hx207_2)).trans hx207_2
 replace hx207_3 := (HB.out.cell (World.block_lt_of_cell? w _ hx207_3)).trans hx207_3
 replace hx207_4 := (HB.out.cell (World.block_lt_of_cell? w _ hx207_4)).trans hx207_4
 replace hx207_5 := (HB.out.cell (World.block_lt_of_cell? w _ hx207_5)).trans hx207_5
 replace hx207_6 := (HB.out.cell (World.block_lt_of_cell? w _ hx207_6)).trans hx207_6
 replace hx207_7 := (HB.out.cell (World.block_lt_of_cell? w _ hx207_7)).trans hx207_7
 have HR207_7 := Aside0.mk hi207_7
 have HC207_7 := Aside0.mk hl207_7
 clear hi207_7 hl207_7
 replace p207 := eq_true p207
 replace q207 := eq_true q207
 refine start_ (n := 38) (S := fun w' => w'.cell? ⟨gb205, 0, none⟩ = some (.int .i64 ((rd_T81 l0_1 x8_1).f0)) ∧ w'.cell? ⟨gb205, 1, none⟩ = some (.int .i64 ((rd_T81 l0_1 x8_1).f1)) ∧ w'.cell? ⟨gb205, 2, none⟩ = some (.int .i64 ((rd_T81 l0_1 x8_1).f2)) ∧ w'.cell? ⟨gb205, 3, none⟩ = some (.string ((rd_T81 l0_1 x8_1).f3)) ∧ w'.cell? ⟨gb205, 4, none⟩ = some (.int .i64 ((rd_T81 l0_1 x8_1).f4)) ∧ w'.cell? ⟨gb205, 5, none⟩ = some (.bool ((rd_T81 l0_1 x8_1).f5)) ∧ w'.cell? ⟨gb205, 6, none⟩ = some (.int .i64 ((rd_T81 l0_1 x8_1).f6)) ∧ w'.cell? ⟨gb205, 7, none⟩ = some (.slice A204_7 ((rd_T81 l0_1 x8_1).f7).length c204_7) ∧ w'.cell? ⟨gb203, 0, none⟩ = some (.int .i64 a0_0) ∧ w'.cell? ⟨gb203, 1, none⟩ = some (.slice (some ad204) l0_1.length c0_1) ∧ w'.cell? (ad204.add (((ji17)).toNat * 8)) = some (.int .i64 ((rd_T81 l0_1 (ji17)).f0)) ∧ w'.cell? ⟨(ad204.add (((ji17)).toNat * 8)).block, (ad204.add (((ji17)).toNat * 8)).off + 1, none⟩ = some (.int .i64 ((rd_T81 l0_1 (ji17)).f1)) ∧ w'.cell? ⟨(ad204.add (((ji17)).toNat * 8)).block, (ad204.add (((ji17)).toNat * 8)).off + 2, none⟩ = some (.int .i64 ((rd_T81 l0_1 (ji17)).f2)) ∧ w'.cell? ⟨(ad204.add (((ji17)).toNat * 8)).block, (ad204.add (((ji17)).toNat * 8)).off + 3, none⟩ = some (.string ((rd_T81 l0_1 (ji17)).f3)) ∧ w'.cell? ⟨(ad204.add (((ji17)).toNat * 8)).block, (ad204.add (((ji17)).toNat * 8)).off + 4, none⟩ = some (.int .i64 ((rd_T81 l0_1 (ji17)).f4)) ∧ w'.cell? ⟨(ad204.add (((ji17)).toNat * 8)).block, (ad204.add (((ji17)).toNat * 8)).off + 5, none⟩ = some (.bool ((rd_T81 l0_1 (ji17)).f5)) ∧ w'.cell? ⟨(ad204.add (((ji17)).toNat * 8)).block, (ad204.add (((ji17)).toNat * 8)).off + 6, none⟩ = some (.int .i64 ((rd_T81 l0_1 (ji17)).f6)) ∧ w'.cell? ⟨(ad204.add (((ji17)).toNat * 8)).block, (ad204.add (((ji17)).toNat * 8)).off + 7, none⟩ = some (.slice A207_7 ((rd_T81 l0_1 (ji17)).f7).length c207_7)) (ds := []) m0_ s2_ rfl rfl ⟨(blk_cell BK205.out 0).trans rfl, (blk_cell BK205.out 1).trans rfl, (blk_cell BK205.out 2).trans rfl, (blk_cell BK205.out 3).trans rfl, (blk_cell BK205.out 4).trans rfl, (blk_cell BK205.out 5).trans rfl, (blk_cell BK205.out 6).trans rfl, (blk_cell BK205.out 7).trans rfl, (blk_cell BK203.out 0).trans rfl, (blk_cell BK203.out 1).trans rfl, ((HB.out.cell (World.block_lt_of_cell? w _ hw207_0)).trans hw207_0), ((HB.out.cell (World.block_lt_of_cell? w _ hw207_1)).trans hw207_1), ((HB.out.cell (World.block_lt_of_cell? w _ hw207_2)).trans hw207_2), ((HB.out.cell (World.block_lt_of_cell? w _ hw207_3)).trans hw207_3), ((HB.out.cell (World.block_lt_of_cell? w _ hw207_4)).trans hw207_4), ((HB.out.cell (World.block_lt_of_cell? w _ hw207_5)).trans hw207_5), ((HB.out.cell (World.block_lt_of_cell? w _ hw207_6)).trans hw207_6), ((HB.out.cell (World.block_lt_of_cell? w _ hw207_7)).trans hw207_7)⟩ (fun hHeld => ?_); refine with_tabW impl_ValidLog.tab4 impl_ValidLog.bits4 (fun HT_ HW_ => ?_)
 generalize w24.drew = w25 at BK203 BK205 HB HR207_7 hx207_0 hx207_1 hx207_2 hx207_3 hx207_4 hx207_5 hx207_6 hx207_7 hHeld ⊢
 refine take_ (i := 0) (N := some 13) (v := ?_) (a' := ?_) m1_ rfl rfl (take_ofW HT_.out HW_.out s2_) (fun _ _ _ h => h) (Or.inl ⟨by rfl, ?_⟩) hHeld ?_ ?_
 rotate_left
 {
 rintro w' ⟨s0, s1, s2, s3, s4, s5, s6, s7, s8, s9, s10, s11, s12, s13, s14, s15, s16, s17⟩
 go_simp
 with_reducible rfl}
 rotate_left
 · exact p1_
 refine one_ (i := 1) (N := some 14) m2_ rfl rfl (one_of HT_.out s2_) (by decide) (fun K hK => ?_)
 refine goes_ Try.func59 s2_ rfl #[.agg #[.int .i64 ((rd_T81 l0_1 x8_1).f0), .int .i64 ((rd_T81 l0_1 x8_1).f1), .int .i64 ((rd_T81 l0_1 x8_1).f2), .string ((rd_T81 l0_1 x8_1).f3), .int .i64 ((rd_T81 l0_1 x8_1).f4), .bool ((rd_T81 l0_1 x8_1).f5), .int .i64 ((rd_T81 l0_1 x8_1).f6), .slice A204_7 ((rd_T81 l0_1 x8_1).f7).length c204_7]] (by rfl) rfl rfl s3_ ?_
 with_reducible refine (impl_ValidMessage.calls k1 ((rd_T81 l0_1 x8_1).f0) ((rd_T81 l0_1 x8_1).f1) ((rd_T81 l0_1 x8_1).f2) ((rd_T81 l0_1 x8_1).f3) ((rd_T81 l0_1 x8_1).f4) ((rd_T81 l0_1 x8_1).f5) ((rd_T81 l0_1 x8_1).f6) _ _ ((rd_T81 l0_1 x8_1).f7) true _ ?side1 ?side2 A7.out).mono ?_
 (case side1 => repeat (first | exact (Kd.C_below HR204_7.out HB.out) | (with_reducible refine Kd.C_alloc ?_ _) | (with_reducible refine Kd.C_drewN ?_ _) | (with_reducible refine Kd.C_drew ?_)))
 (case side2 => exact HC204_7.out)
 rintro e w26 ⟨rfl, hb⟩
 refine ⟨_, rfl, ?_⟩
 have n0_ := Aside0.mk (blk_below (g := gb203) (o := .cells #[.int .i64 a0_0, .slice (some ad204) l0_1.length c0_1] 38 (0, 0)) (b1_ BK203.out) hb)
 have n1_ := Aside0.mk (blk_below (g := gb205) (o := .cells #[.int .i64 ((rd_T81 l0_1 x8_1).f0), .int .i64 ((rd_T81 l0_1 x8_1).f1), .int .i64 ((rd_T81 l0_1 x8_1).f2), .string ((rd_T81 l0_1 x8_1).f3), .int .i64 ((rd_T81 l0_1 x8_1).f4), .bool ((rd_T81 l0_1 x8_1).f5), .int .i64 ((rd_T81 l0_1 x8_1).f6), .slice A204_7 ((rd_T81 l0_1 x8_1).f7).length c204_7] 81 (0, 0)) (b1_ BK205.out) hb)
 have n2_ := Aside0.mk (below_step (by repeat (first | (with_reducible first | exact HB.out | apply below_alloc | apply pw_below_drewN | apply below_drew1 | refine below_set ?_ GE203.out | refine below_set ?_ GE205.out) | exact HB.out)) hb)
 clear BK203
 clear BK205
 clear HB
 have BK203 := n0_
 have BK205 := n1_
 have HB := n2_
 clear n0_ n1_ n2_
 (try clear hb)
 (try clear hb2)
 (try clear hk)
 (try clear hi)
 refine hK.out _ _ ⟨(blk_cell BK205.out 0).trans rfl, (blk_cell BK205.out 1).trans rfl, (blk_cell BK205.out 2).trans rfl, (blk_cell BK205.out 3).trans rfl, (blk_cell BK205.out 4).trans rfl, (blk_cell BK205.out 5).trans rfl, (blk_cell BK205.out 6).trans rfl, (blk_cell BK205.out 7).trans rfl, (blk_cell BK203.out 0).trans rfl, (blk_cell BK203.out 1).trans rfl, ((HB.out.cell (World.block_lt_of_cell? w _ hw207_0)).trans hw207_0), ((HB.out.cell (World.block_lt_of_cell? w _ hw207_1)).trans hw207_1), ((HB.out.cell (World.block_lt_of_cell? w _ hw207_2)).trans hw207_2), ((HB.out.cell (World.block_lt_of_cell? w _ hw207_3)).trans hw207_3), ((HB.out.cell (World.block_lt_of_cell? w _ hw207_4)).trans hw207_4), ((HB.out.cell (World.block_lt_of_cell? w _ hw207_5)).trans hw207_5), ((HB.out.cell (World.block_lt_of_cell? w _ hw207_6)).trans hw207_6), ((HB.out.cell (World.block_lt_of_cell? w _ hw207_7)).trans hw207_7)⟩ (fun hHeld => ?_)
 clear hK K
 refine norm_ (a' := ?_) ?_ ?_
 rotate_left
 {
 show Act.put _ (some 14) _ = _
 simp only [Act.put, List.setIfInBounds_toArray, List.set_cons_zero, List.set_cons_succ, i64_w, i32_w]
 rfl}
 refine pu_ 2 15 m3_ (any_of HT_.out s2_) ?_
 refine pu_ 3 16 m4_ (any_of HT_.out s2_) ?_
 refine pu_ 4 17 m5_ (any_of HT_.out s2_) ?_
 refine pu_ 6 19 m6_ (any_of HT_.out s2_) ?_
 refine take_ (i := 5) (N := some 18) (v := ?_) (a' := ?_) m7_ rfl rfl (take_ofW HT_.out HW_.out s2_) (fun _ _ _ h => h) (Or.inl ⟨by rfl, ?_⟩) hHeld ?_ ?_
 rotate_left
 {
 rintro w' ⟨s0, s1, s2, s3, s4, s5, s6, s7, s8, s9, s10, s11, s12, s13, s14, s15, s16, s17⟩
 go_simp
 with_reducible rfl}
 rotate_left
 · exact p1_
 refine take_ (i := 7) (N := some 20) (v := ?_) (a' := ?_) m8_ rfl rfl (take_ofW HT_.out HW_.out s2_) (fun _ _ _ h => h) (Or.inl ⟨by rfl, ?_⟩) hHeld ?_ ?_
 rotate_left
 {
 rintro w' ⟨s0, s1, s2, s3, s4, s5, s6, s7, s8, s9, s10, s11, s12, s13, s14, s15, s16, s17⟩
 go_simp
 with_reducible rfl}
 rotate_left
 · exact p1_
 refine pu_ 8 21 m9_ (any_of HT_.out s2_) ?_
 refine pu_ 9 22 m10_ (any_of HT_.out s2_) ?_
 refine pu_ 10 23 m11_ (any_of HT_.out s2_) ?_
 refine pu_ 11 24 m12_ (any_of HT_.out s2_) ?_
 refine pu_ 12 25 m13_ (any_of HT_.out s2_) ?_
 refine pu_ 13 26 m14_ (any_of HT_.out s2_) ?_
 refine pu_ 14 27 m15_ (any_of HT_.out s2_) ?_
 refine pu_ 16 29 m39_ (any_of HT_.out s2_) ?_
 refine pu_ 17 30 m40_ (any_of HT_.out s2_) ?_
 refine pu_ 21 34 m41_ (any_of HT_.out s2_) ?_
 refine take_ (i := 15) (N := some 28) (v := ?_) (a' := ?_) m42_ rfl rfl (take_ofW HT_.out HW_.out s2_) (fun _ _ _ h => h) (Or.inl ⟨by rfl, ?_⟩) hHeld ?_ ?_
 rotate_left
 {
 rintro w' ⟨s0, s1, s2, s3, s4, s5, s6, s7, s8, s9, s10, s11, s12, s13, s14, s15, s16, s17⟩
 go_simp
 with_reducible rfl}
 rotate_left
 · exact p1_
 refine pu_ 18 31 m43_ (any_of HT_.out s2_) ?_
 refine pu_ 19 32 m44_ (any_of HT_.out s2_) ?_
 refine take_ (i := 20) (N := some 33) (v := ?_) (a' := ?_) m22_ rfl rfl (take_ofW HT_.out HW_.out s2_) (fun _ _ _ h => h) (Or.inl ⟨by rfl, ?_⟩) hHeld ?_ ?_
 rotate_left
 {
 rintro w' ⟨s0, s1, s2, s3, s4, s5, s6, s7, s8, s9, s10, s11, s12, s13, s14, s15, s16, s17⟩
 go_simp
 with_reducible rfl}
 rotate_left
 · exact p1_
 refine take_ (i := 22) (N := some 35) (v := ?_) (a' := ?_) m23_ rfl rfl (take_ofW HT_.out HW_.out s2_) (fun _ _ _ h => h) (Or.inl ⟨by rfl, ?_⟩) hHeld ?_ ?_
 rotate_left
 {
 rintro w' ⟨s0, s1, s2, s3, s4, s5, s6, s7, s8, s9, s10, s11, s12, s13, s14, s15, s16, s17⟩
 go_simp
 with_reducible rfl}
 rotate_left
 · exact p1_
 refine pu_ 23 36 m24_ (any_of HT_.out s2_) ?_
 refine pu_ 24 37 m25_ (any_of HT_.out s2_) ?_
 refine pn_ 25 38 m26_ (any_of HT_.out s2_) ?_
 refine pn_ 26 39 m27_ (any_of HT_.out s2_) ?_
 refine pn_ 27 40 m28_ (any_of HT_.out s2_) ?_
 refine pn_ 28 41 m29_ (any_of HT_.out s2_) ?_
 refine pn_ 29 42 m30_ (any_of HT_.out s2_) ?_
 refine pn_ 30 43 m31_ (any_of HT_.out s2_) ?_
 refine pn_ 31 44 m32_ (any_of HT_.out s2_) ?_
 refine pn_ 32 45 m33_ (any_of HT_.out s2_) ?_
 refine pn_ 33 46 m34_ (any_of HT_.out s2_) ?_
 refine pn_ 34 47 m35_ (any_of HT_.out s2_) ?_
 refine pu_ 35 48 m36_ (any_of HT_.out s2_) ?_
 refine pu_ 36 49 m37_ (any_of HT_.out s2_) ?_
 refine pu_ 37 50 m38_ (any_of HT_.out s2_) ?_
 refine done_ (done_of HT_.out s2_) ?_
 try go_wp2
 go_ret
 exact ⟨by first | rfl | (simp [errW_none, errW_some] <;> rfl) | (simp only [← hji17]; first | rfl | (simp [errW_none, errW_some] <;> rfl)) | (simp [*, errW_none, errW_some] <;> rfl), by repeat (first | (with_reducible first | exact HB.out | apply below_alloc | apply pw_below_drewN | apply below_drew1 | refine below_set ?_ GE203.out | refine below_set ?_ GE205.out) | exact HB.out)⟩}
 {
 rw [if_neg c20] at H
 have c20b0 : decide (((rd_T81 l0_1 x8_1).f0) ≤ ((rd_T81 l0_1 (ji17)).f0)) = false := decide_eq_false c20
 clear c20
 by_cases c27 : ((rd_T81 l0_1 (ji17)).f2) > ((rd_T81 l0_1 x8_1).f2)
 {
 rw [if_pos c27] at H
 have c27b0 : decide (((rd_T81 l0_1 x8_1).f2) < ((rd_T81 l0_1 (ji17)).f2)) = true := decide_eq_true c27
 clear c27
 obtain rfl := Option.some.inj H
 have p204 : 0 ≤ (x8_1 : Int) := of_decide_eq_true (by first | (with_reducible assumption) | assumption)
 have q204 : x8_1 < (l0_1.length : Int) := of_decide_eq_true (by first | (with_reducible assumption) | assumption)
 obtain ⟨ad204, A204_7, c204_7, e204, hx204_0, hx204_1, hx204_2, hx204_3, hx204_4, hx204_5, hx204_6, hx204_7, hl204_7, hi204_7⟩ := at_T81 HR0_1.out x8_1 p204 q204
 cases e204
 replace hx204_0 := (HB.out.cell (World.block_lt_of_cell? w _ hx204_0)).trans hx204_0
 replace hx204_1 := (HB.out.cell (World.block_lt_of_cell? w _ hx204_1)).trans hx204_1
 replace hx204_2 := (HB.out.cell (World.block_lt_of_cell? w _ hx204_2)).trans hx204_2
 replace hx204_3 := (HB.out.cell (World.block_lt_of_cell? w _ hx204_3)).trans hx204_3
 replace hx204_4 := (HB.out.cell (World.block_lt_of_cell? w _ hx204_4)).trans hx204_4
 replace hx204_5 := (HB.out.cell (World.block_lt_of_cell? w _ hx204_5)).trans hx204_5
 replace hx204_6 := (HB.out.cell (World.block_lt_of_cell? w _ hx204_6)).trans hx204_6
 replace hx204_7 := (HB.out.cell (World.block_lt_of_cell? w _ hx204_7)).trans hx204_7
 have HR204_7 := Aside0.mk hi204_7
 have HC204_7 := Aside0.mk hl204_7
 clear hi204_7 hl204_7
 replace p204 := eq_true p204
 replace q204 := eq_true q204
 try go_wp2_with (first | ((with_reducible refine gate_dst (N := 4) rfl ?_); refine box_event ?hg (N := 4) ?hd (cs := #[.int .i64 0, .int .i64 0, .int .i64 0, .string (⟨#[]⟩ : ByteArray), .int .i64 0, .bool false, .int .i64 0, .slice none 0 0]) (t := 81) ?hr ?_; (case hd => rfl); (case hg => rfl); (case hr => first | (go_simp; done) | (go_simp; rfl)); intro gb205 hg w28 hbox hb; have n0_ := Aside0.mk (blk_below (g := gb203) (o := .cells #[.int .i64 a0_0, .slice (some ad204) l0_1.length c0_1] 38 (0, 0)) (b1_ BK203.out) hb); have n1_ := Aside0.mk (below_step (by repeat (first | (with_reducible first | exact HB.out | apply below_alloc | apply pw_below_drewN | apply below_drew1 | refine below_set ?_ GE203.out) | exact HB.out)) hb); have n2_ := Aside0.mk (hbox); have n3_ := Aside0.mk ((by rw [hg]; exact (below_size (by repeat (first | (with_reducible first | exact HB.out | apply below_alloc | apply pw_below_drewN | apply below_drew1 | refine below_set ?_ GE203.out) | exact HB.out))) : w.heap.size ≤ gb205)); have n4_ := Aside0.mk ((by rw [hg]; exact (below_size (by repeat (first | (with_reducible first | exact HB.out | apply below_alloc | apply pw_below_drewN | apply below_drew1 | refine below_set ?_ GE203.out) | exact HB.out))) : w.heap.size ≤ gb205)); have n5_ := Aside0.mk ((by rw [hg]; exact Nat.ne_of_lt (blk_lt (g := gb203) (o := .cells #[.int .i64 a0_0, .slice (some ad204) l0_1.length c0_1] 38 (0, 0)) (b1_ BK203.out)) : gb203 ≠ gb205)); have n6_ := Aside0.mk ((by rw [hg]; exact Nat.ne_of_gt (blk_lt (g := gb203) (o := .cells #[.int .i64 a0_0, .slice (some ad204) l0_1.length c0_1] 38 (0, 0)) (b1_ BK203.out)) : gb205 ≠ gb203)); clear BK203; clear HB; have BK203 := n0_; have HB := n1_; have BK205 := n2_; have GW205 := n3_; have GE205 := n4_; have NB203_205 := n5_; have NB205_203 := n6_; clear n0_ n1_ n2_ n3_ n4_ n5_ n6_; clear hb hbox hg; have hnb29 := NB205_203.out; have hnc29 := NB203_205.out; have hcz30_0 : w28.cell? ⟨gb205, 0, none⟩ = some (.int .i64 0) := (blk_cell BK205.out 0).trans rfl; have hcz30_1 : w28.cell? ⟨gb205, 1, none⟩ = some (.int .i64 0) := (blk_cell BK205.out 1).trans rfl; have hcz30_2 : w28.cell? ⟨gb205, 2, none⟩ = some (.int .i64 0) := (blk_cell BK205.out 2).trans rfl; have hcz30_3 : w28.cell? ⟨gb205, 3, none⟩ = some (.string (⟨#[]⟩ : ByteArray)) := (blk_cell BK205.out 3).trans rfl; have hcz30_4 : w28.cell? ⟨gb205, 4, none⟩ = some (.int .i64 0) := (blk_cell BK205.out 4).trans rfl; have hcz30_5 : w28.cell? ⟨gb205, 5, none⟩ = some (.bool false) := (blk_cell BK205.out 5).trans rfl; have hcz30_6 : w28.cell? ⟨gb205, 6, none⟩ = some (.int .i64 0) := (blk_cell BK205.out 6).trans rfl; have hcz30_7 : w28.cell? ⟨gb205, 7, none⟩ = some (.slice none 0 0) := (blk_cell BK205.out 7).trans rfl; have hfz30_0 := blk_frozen BK205.out 0; have hfz30_1 := blk_frozen BK205.out 1; have hfz30_2 := blk_frozen BK205.out 2; have hfz30_3 := blk_frozen BK205.out 3; have hfz30_4 := blk_frozen BK205.out 4; have hfz30_5 := blk_frozen BK205.out 5; have hfz30_6 := blk_frozen BK205.out 6; have hfz30_7 := blk_frozen BK205.out 7))
 have n0_ : Aside0 (((((((((w28.setCell ⟨gb205, 0, none⟩ (.int .i64 ((rd_T81 l0_1 x8_1).f0))).setCell ⟨gb205, 1, none⟩ (.int .i64 ((rd_T81 l0_1 x8_1).f1))).setCell ⟨gb205, 2, none⟩ (.int .i64 ((rd_T81 l0_1 x8_1).f2))).setCell ⟨gb205, 3, none⟩ (.string ((rd_T81 l0_1 x8_1).f3))).setCell ⟨gb205, 4, none⟩ (.int .i64 ((rd_T81 l0_1 x8_1).f4))).setCell ⟨gb205, 5, none⟩ (.bool ((rd_T81 l0_1 x8_1).f5))).setCell ⟨gb205, 6, none⟩ (.int .i64 ((rd_T81 l0_1 x8_1).f6))).setCell ⟨gb205, 7, none⟩ (.slice A204_7 ((rd_T81 l0_1 x8_1).f7).length c204_7)).heap[gb203]? = some (.cells #[.int .i64 a0_0, .slice (some ad204) l0_1.length c0_1] 38 (0, 0))) := ⟨by (with_reducible repeat (first | refine blk_drewN ?_ _ | refine blk_drew ?_ | refine blk_alloc ?_ _)); refine blk_far ?_ NB203_205.out _; (with_reducible repeat (first | refine blk_drewN ?_ _ | refine blk_drew ?_ | refine blk_alloc ?_ _)); refine blk_far ?_ NB203_205.out _; (with_reducible repeat (first | refine blk_drewN ?_ _ | refine blk_drew ?_ | refine blk_alloc ?_ _)); refine blk_far ?_ NB203_205.out _; (with_reducible repeat (first | refine blk_drewN ?_ _ | refine blk_drew ?_ | refine blk_alloc ?_ _)); refine blk_far ?_ NB203_205.out _; (with_reducible repeat (first | refine blk_drewN ?_ _ | refine blk_drew ?_ | refine blk_alloc ?_ _)); refine blk_far ?_ NB203_205.out _; (with_reducible repeat (first | refine blk_drewN ?_ _ | refine blk_drew ?_ | refine blk_alloc ?_ _)); refine blk_far ?_ NB203_205.out _; (with_reducible repeat (first | refine blk_drewN ?_ _ | refine blk_drew ?_ | refine blk_alloc ?_ _)); refine blk_far ?_ NB203_205.out _; (with_reducible repeat (first | refine blk_drewN ?_ _ | refine blk_drew ?_ | refine blk_alloc ?_ _)); refine blk_far ?_ NB203_205.out _; (with_reducible repeat (first | refine blk_drewN ?_ _ | refine blk_drew ?_ | refine blk_alloc ?_ _)); exact BK203.out⟩
 have n1_ : Aside0 (((((((((w28.setCell ⟨gb205, 0, none⟩ (.int .i64 ((rd_T81 l0_1 x8_1).f0))).setCell ⟨gb205, 1, none⟩ (.int .i64 ((rd_T81 l0_1 x8_1).f1))).setCell ⟨gb205, 2, none⟩ (.int .i64 ((rd_T81 l0_1 x8_1).f2))).setCell ⟨gb205, 3, none⟩ (.string ((rd_T81 l0_1 x8_1).f3))).setCell ⟨gb205, 4, none⟩ (.int .i64 ((rd_T81 l0_1 x8_1).f4))).setCell ⟨gb205, 5, none⟩ (.bool ((rd_T81 l0_1 x8_1).f5))).setCell ⟨gb205, 6, none⟩ (.int .i64 ((rd_T81 l0_1 x8_1).f6))).setCell ⟨gb205, 7, none⟩ (.slice A204_7 ((rd_T81 l0_1 x8_1).f7).length c204_7)).heap[gb205]? = some (.cells #[.int .i64 ((rd_T81 l0_1 x8_1).f0), .int .i64 ((rd_T81 l0_1 x8_1).f1), .int .i64 ((rd_T81 l0_1 x8_1).f2), .string ((rd_T81 l0_1 x8_1).f3), .int .i64 ((rd_T81 l0_1 x8_1).f4), .bool ((rd_T81 l0_1 x8_1).f5), .int .i64 ((rd_T81 l0_1 x8_1).f6), .slice A204_7 ((rd_T81 l0_1 x8_1).f7).length c204_7] 81 (0, 0))) := ⟨by (with_reducible repeat (first | refine blk_drewN ?_ _ | refine blk_drew ?_ | refine blk_alloc ?_ _)); refine blk_put (cs := #[.int .i64 ((rd_T81 l0_1 x8_1).f0), .int .i64 ((rd_T81 l0_1 x8_1).f1), .int .i64 ((rd_T81 l0_1 x8_1).f2), .string ((rd_T81 l0_1 x8_1).f3), .int .i64 ((rd_T81 l0_1 x8_1).f4), .bool ((rd_T81 l0_1 x8_1).f5), .int .i64 ((rd_T81 l0_1 x8_1).f6), .slice none 0 0]) ?_ 7 _ rfl; (with_reducible repeat (first | refine blk_drewN ?_ _ | refine blk_drew ?_ | refine blk_alloc ?_ _)); refine blk_put (cs := #[.int .i64 ((rd_T81 l0_1 x8_1).f0), .int .i64 ((rd_T81 l0_1 x8_1).f1), .int .i64 ((rd_T81 l0_1 x8_1).f2), .string ((rd_T81 l0_1 x8_1).f3), .int .i64 ((rd_T81 l0_1 x8_1).f4), .bool ((rd_T81 l0_1 x8_1).f5), .int .i64 0, .slice none 0 0]) ?_ 6 _ rfl; (with_reducible repeat (first | refine blk_drewN ?_ _ | refine blk_drew ?_ | refine blk_alloc ?_ _)); refine blk_put (cs := #[.int .i64 ((rd_T81 l0_1 x8_1).f0), .int .i64 ((rd_T81 l0_1 x8_1).f1), .int .i64 ((rd_T81 l0_1 x8_1).f2), .string ((rd_T81 l0_1 x8_1).f3), .int .i64 ((rd_T81 l0_1 x8_1).f4), .bool false, .int .i64 0, .slice none 0 0]) ?_ 5 _ rfl; (with_reducible repeat (first | refine blk_drewN ?_ _ | refine blk_drew ?_ | refine blk_alloc ?_ _)); refine blk_put (cs := #[.int .i64 ((rd_T81 l0_1 x8_1).f0), .int .i64 ((rd_T81 l0_1 x8_1).f1), .int .i64 ((rd_T81 l0_1 x8_1).f2), .string ((rd_T81 l0_1 x8_1).f3), .int .i64 0, .bool false, .int .i64 0, .slice none 0 0]) ?_ 4 _ rfl; (with_reducible repeat (first | refine blk_drewN ?_ _ | refine blk_drew ?_ | refine blk_alloc ?_ _)); refine blk_put (cs := #[.int .i64 ((rd_T81 l0_1 x8_1).f0), .int .i64 ((rd_T81 l0_1 x8_1).f1), .int .i64 ((rd_T81 l0_1 x8_1).f2), .string (⟨#[]⟩ : ByteArray), .int .i64 0, .bool false, .int .i64 0, .slice none 0 0]) ?_ 3 _ rfl; (with_reducible repeat (first | refine blk_drewN ?_ _ | refine blk_drew ?_ | refine blk_alloc ?_ _)); refine blk_put (cs := #[.int .i64 ((rd_T81 l0_1 x8_1).f0), .int .i64 ((rd_T81 l0_1 x8_1).f1), .int .i64 0, .string (⟨#[]⟩ : ByteArray), .int .i64 0, .bool false, .int .i64 0, .slice none 0 0]) ?_ 2 _ rfl; (with_reducible repeat (first | refine blk_drewN ?_ _ | refine blk_drew ?_ | refine blk_alloc ?_ _)); refine blk_put (cs := #[.int .i64 ((rd_T81 l0_1 x8_1).f0), .int .i64 0, .int .i64 0, .string (⟨#[]⟩ : ByteArray), .int .i64 0, .bool false, .int .i64 0, .slice none 0 0]) ?_ 1 _ rfl; (with_reducible repeat (first | refine blk_drewN ?_ _ | refine blk_drew ?_ | refine blk_alloc ?_ _)); refine blk_put (cs := #[.int .i64 0, .int .i64 0, .int .i64 0, .string (⟨#[]⟩ : ByteArray), .int .i64 0, .bool false, .int .i64 0, .slice none 0 0]) ?_ 0 _ rfl; (with_reducible repeat (first | refine blk_drewN ?_ _ | refine blk_drew ?_ | refine blk_alloc ?_ _)); exact BK205.out⟩
 have n2_ : Aside0 (Below w.heap.size w ((((((((w28.setCell ⟨gb205, 0, none⟩ (.int .i64 ((rd_T81 l0_1 x8_1).f0))).setCell ⟨gb205, 1, none⟩ (.int .i64 ((rd_T81 l0_1 x8_1).f1))).setCell ⟨gb205, 2, none⟩ (.int .i64 ((rd_T81 l0_1 x8_1).f2))).setCell ⟨gb205, 3, none⟩ (.string ((rd_T81 l0_1 x8_1).f3))).setCell ⟨gb205, 4, none⟩ (.int .i64 ((rd_T81 l0_1 x8_1).f4))).setCell ⟨gb205, 5, none⟩ (.bool ((rd_T81 l0_1 x8_1).f5))).setCell ⟨gb205, 6, none⟩ (.int .i64 ((rd_T81 l0_1 x8_1).f6))).setCell ⟨gb205, 7, none⟩ (.slice A204_7 ((rd_T81 l0_1 x8_1).f7).length c204_7))) := ⟨by repeat (first | (with_reducible first | exact HB.out | apply below_alloc | apply pw_below_drewN | apply below_drew1 | refine below_set ?_ GE203.out | refine below_set ?_ GE205.out) | exact HB.out)⟩
 (try clear BK203)
 (try clear BK205)
 (try clear HB)
 generalize ((((((((w28.setCell ⟨gb205, 0, none⟩ (.int .i64 ((rd_T81 l0_1 x8_1).f0))).setCell ⟨gb205, 1, none⟩ (.int .i64 ((rd_T81 l0_1 x8_1).f1))).setCell ⟨gb205, 2, none⟩ (.int .i64 ((rd_T81 l0_1 x8_1).f2))).setCell ⟨gb205, 3, none⟩ (.string ((rd_T81 l0_1 x8_1).f3))).setCell ⟨gb205, 4, none⟩ (.int .i64 ((rd_T81 l0_1 x8_1).f4))).setCell ⟨gb205, 5, none⟩ (.bool ((rd_T81 l0_1 x8_1).f5))).setCell ⟨gb205, 6, none⟩ (.int .i64 ((rd_T81 l0_1 x8_1).f6))).setCell ⟨gb205, 7, none⟩ (.slice A204_7 ((rd_T81 l0_1 x8_1).f7).length c204_7)) = w31 at n0_ n1_ n2_ ⊢
 have BK203 := n0_
 have BK205 := n1_
 have HB := n2_
 clear n0_ n1_ n2_
 have n0_ := Aside0.mk (blk_drew BK203.out)
 have n1_ := Aside0.mk (blk_drew BK205.out)
 have n2_ := Aside0.mk (below_drew1 HB.out)
 clear BK203
 clear BK205
 clear HB
 have BK203 := n0_
 have BK205 := n1_
 have HB := n2_
 clear n0_ n1_ n2_
 have p207 : 0 ≤ ((ji17) : Int) := of_decide_eq_true (by first | (with_reducible assumption) | assumption)
 have q207 : (ji17) < (l0_1.length : Int) := of_decide_eq_true (by first | (with_reducible assumption) | assumption)
 obtain ⟨ad207, A207_7, c207_7, e207, hx207_0, hx207_1, hx207_2, hx207_3, hx207_4, hx207_5, hx207_6, hx207_7, hl207_7, hi207_7⟩ := at_T81 HR0_1.out (ji17) p207 q207
 have hw207_7 := hx207_7
 have hw207_6 := hx207_6
 have hw207_5 := hx207_5
 have hw207_4 := hx207_4
 have hw207_3 := hx207_3
 have hw207_2 := hx207_2
 have hw207_1 := hx207_1
 have hw207_0 := hx207_0
 obtain rfl : ad204 = ad207 := (by injection e207)
 replace hx207_0 := (HB.out.cell (World.block_lt_of_cell? w _ hx207_0)).trans hx207_0
 replace hx207_1 := (HB.out.cell (World.block_lt_of_cell? w _ hx207_1)).trans hx207_1
 replace hx207_2 := (HB.out.cell (World.block_lt_of_cell? w _ hx207_2)).trans hx207_2
 replace hx207_3 := (HB.out.cell (World.block_lt_of_cell? w _ hx207_3)).trans hx207_3
 replace hx207_4 := (HB.out.cell (World.block_lt_of_cell? w _ hx207_4)).trans hx207_4
 replace hx207_5 := (HB.out.cell (World.block_lt_of_cell? w _ hx207_5)).trans hx207_5
 replace hx207_6 := (HB.out.cell (World.block_lt_of_cell? w _ hx207_6)).trans hx207_6
 replace hx207_7 := (HB.out.cell (World.block_lt_of_cell? w _ hx207_7)).trans hx207_7
 have HR207_7 := Aside0.mk hi207_7
 have HC207_7 := Aside0.mk hl207_7
 clear hi207_7 hl207_7
 replace p207 := eq_true p207
 replace q207 := eq_true q207
 have p208 : 0 ≤ ((ji17) : Int) := of_decide_eq_true (by first | (with_reducible assumption) | assumption)
 have q208 : (ji17) < (l0_1.length : Int) := of_decide_eq_true (by first | (with_reducible assumption) | assumption)
 obtain ⟨ad208, A208_7, c208_7, e208, hx208_0, hx208_1, hx208_2, hx208_3, hx208_4, hx208_5, hx208_6, hx208_7, hl208_7, hi208_7⟩ := at_T81 HR0_1.out (ji17) p208 q208
 have hw208_7 := hx208_7
 have hw208_6 := hx208_6
 have hw208_5 := hx208_5
 have hw208_4 := hx208_4
 have hw208_3 := hx208_3
 have hw208_2 := hx208_2
 have hw208_1 := hx208_1
 have hw208_0 := hx208_0
 obtain rfl : ad204 = ad208 := (by injection e208)
 replace hx208_0 := (HB.out.cell (World.block_lt_of_cell? w _ hx208_0)).trans hx208_0
 replace hx208_1 := (HB.out.cell (World.block_lt_of_cell? w _ hx208_1)).trans hx208_1
 replace hx208_2 := (HB.out.cell (World.block_lt_of_cell? w _ hx208_2)).trans hx208_2
 replace hx208_3 := (HB.out.cell (World.block_lt_of_cell? w _ hx208_3)).trans hx208_3
 replace hx208_4 := (HB.out.cell (World.block_lt_of_cell? w _ hx208_4)).trans hx208_4
 replace hx208_5 := (HB.out.cell (World.block_lt_of_cell? w _ hx208_5)).trans hx208_5
 replace hx208_6 := (HB.out.cell (World.block_lt_of_cell? w _ hx208_6)).trans hx208_6
 replace hx208_7 := (HB.out.cell (World.block_lt_of_cell? w _ hx208_7)).trans hx208_7
 have HR208_7 := Aside0.mk hi208_7
 have HC208_7 := Aside0.mk hl208_7
 clear hi208_7 hl208_7
 replace p208 := eq_true p208
 replace q208 := eq_true q208
 have ea_ := Option.some.inj (hx207_7.symm.trans hx208_7)
 injection ea_ with ea_ en_ ec_
 subst ea_
 subst ec_
 clear en_
 refine start_ (n := 38) (S := fun w' => w'.cell? ⟨gb205, 0, none⟩ = some (.int .i64 ((rd_T81 l0_1 x8_1).f0)) ∧ w'.cell? ⟨gb205, 1, none⟩ = some (.int .i64 ((rd_T81 l0_1 x8_1).f1)) ∧ w'.cell? ⟨gb205, 2, none⟩ = some (.int .i64 ((rd_T81 l0_1 x8_1).f2)) ∧ w'.cell? ⟨gb205, 3, none⟩ = some (.string ((rd_T81 l0_1 x8_1).f3)) ∧ w'.cell? ⟨gb205, 4, none⟩ = some (.int .i64 ((rd_T81 l0_1 x8_1).f4)) ∧ w'.cell? ⟨gb205, 5, none⟩ = some (.bool ((rd_T81 l0_1 x8_1).f5)) ∧ w'.cell? ⟨gb205, 6, none⟩ = some (.int .i64 ((rd_T81 l0_1 x8_1).f6)) ∧ w'.cell? ⟨gb205, 7, none⟩ = some (.slice A204_7 ((rd_T81 l0_1 x8_1).f7).length c204_7) ∧ w'.cell? ⟨gb203, 0, none⟩ = some (.int .i64 a0_0) ∧ w'.cell? ⟨gb203, 1, none⟩ = some (.slice (some ad204) l0_1.length c0_1) ∧ w'.cell? (ad204.add (((ji17)).toNat * 8)) = some (.int .i64 ((rd_T81 l0_1 (ji17)).f0)) ∧ w'.cell? ⟨(ad204.add (((ji17)).toNat * 8)).block, (ad204.add (((ji17)).toNat * 8)).off + 1, none⟩ = some (.int .i64 ((rd_T81 l0_1 (ji17)).f1)) ∧ w'.cell? ⟨(ad204.add (((ji17)).toNat * 8)).block, (ad204.add (((ji17)).toNat * 8)).off + 2, none⟩ = some (.int .i64 ((rd_T81 l0_1 (ji17)).f2)) ∧ w'.cell? ⟨(ad204.add (((ji17)).toNat * 8)).block, (ad204.add (((ji17)).toNat * 8)).off + 3, none⟩ = some (.string ((rd_T81 l0_1 (ji17)).f3)) ∧ w'.cell? ⟨(ad204.add (((ji17)).toNat * 8)).block, (ad204.add (((ji17)).toNat * 8)).off + 4, none⟩ = some (.int .i64 ((rd_T81 l0_1 (ji17)).f4)) ∧ w'.cell? ⟨(ad204.add (((ji17)).toNat * 8)).block, (ad204.add (((ji17)).toNat * 8)).off + 5, none⟩ = some (.bool ((rd_T81 l0_1 (ji17)).f5)) ∧ w'.cell? ⟨(ad204.add (((ji17)).toNat * 8)).block, (ad204.add (((ji17)).toNat * 8)).off + 6, none⟩ = some (.int .i64 ((rd_T81 l0_1 (ji17)).f6)) ∧ w'.cell? ⟨(ad204.add (((ji17)).toNat * 8)).block, (ad204.add (((ji17)).toNat * 8)).off + 7, none⟩ = some (.slice A207_7 ((rd_T81 l0_1 (ji17)).f7).length c207_7) ∧ w'.cell? (ad204.add (((ji17)).toNat * 8)) = some (.int .i64 ((rd_T81 l0_1 (ji17)).f0)) ∧ w'.cell? ⟨(ad204.add (((ji17)).toNat * 8)).block, (ad204.add (((ji17)).toNat * 8)).off + 1, none⟩ = some (.int .i64 ((rd_T81 l0_1 (ji17)).f1)) ∧ w'.cell? ⟨(ad204.add (((ji17)).toNat * 8)).block, (ad204.add (((ji17)).toNat * 8)).off + 2, none⟩ = some (.int .i64 ((rd_T81 l0_1 (ji17)).f2)) ∧ w'.cell? ⟨(ad204.add (((ji17)).toNat * 8)).block, (ad204.add (((ji17)).toNat * 8)).off + 3, none⟩ = some (.string ((rd_T81 l0_1 (ji17)).f3)) ∧ w'.cell? ⟨(ad204.add (((ji17)).toNat * 8)).block, (ad204.add (((ji17)).toNat * 8)).off + 4, none⟩ = some (.int .i64 ((rd_T81 l0_1 (ji17)).f4)) ∧ w'.cell? ⟨(ad204.add (((ji17)).toNat * 8)).block, (ad204.add (((ji17)).toNat * 8)).off + 5, none⟩ = some (.bool ((rd_T81 l0_1 (ji17)).f5)) ∧ w'.cell? ⟨(ad204.add (((ji17)).toNat * 8)).block, (ad204.add (((ji17)).toNat * 8)).off + 6, none⟩ = some (.int .i64 ((rd_T81 l0_1 (ji17)).f6)) ∧ w'.cell? ⟨(ad204.add (((ji17)).toNat * 8)).block, (ad204.add (((ji17)).toNat * 8)).off + 7, none⟩ = some (.slice A207_7 ((rd_T81 l0_1 (ji17)).f7).length c207_7)) (ds := []) m0_ s2_ rfl rfl ⟨(blk_cell BK205.out 0).trans rfl, (blk_cell BK205.out 1).trans rfl, (blk_cell BK205.out 2).trans rfl, (blk_cell BK205.out 3).trans rfl, (blk_cell BK205.out 4).trans rfl, (blk_cell BK205.out 5).trans rfl, (blk_cell BK205.out 6).trans rfl, (blk_cell BK205.out 7).trans rfl, (blk_cell BK203.out 0).trans rfl, (blk_cell BK203.out 1).trans rfl, ((HB.out.cell (World.block_lt_of_cell? w _ hw207_0)).trans hw207_0), ((HB.out.cell (World.block_lt_of_cell? w _ hw207_1)).trans hw207_1), ((HB.out.cell (World.block_lt_of_cell? w _ hw207_2)).trans hw207_2), ((HB.out.cell (World.block_lt_of_cell? w _ hw207_3)).trans hw207_3), ((HB.out.cell (World.block_lt_of_cell? w _ hw207_4)).trans hw207_4), ((HB.out.cell (World.block_lt_of_cell? w _ hw207_5)).trans hw207_5), ((HB.out.cell (World.block_lt_of_cell? w _ hw207_6)).trans hw207_6), ((HB.out.cell (World.block_lt_of_cell? w _ hw207_7)).trans hw207_7), ((HB.out.cell (World.block_lt_of_cell? w _ hw208_0)).trans hw208_0), ((HB.out.cell (World.block_lt_of_cell? w _ hw208_1)).trans hw208_1), ((HB.out.cell (World.block_lt_of_cell? w _ hw208_2)).trans hw208_2), ((HB.out.cell (World.block_lt_of_cell? w _ hw208_3)).trans hw208_3), ((HB.out.cell (World.block_lt_of_cell? w _ hw208_4)).trans hw208_4), ((HB.out.cell (World.block_lt_of_cell? w _ hw208_5)).trans hw208_5), ((HB.out.cell (World.block_lt_of_cell? w _ hw208_6)).trans hw208_6), ((HB.out.cell (World.block_lt_of_cell? w _ hw208_7)).trans hw208_7)⟩ (fun hHeld => ?_); refine with_tabW impl_ValidLog.tab4 impl_ValidLog.bits4 (fun HT_ HW_ => ?_)
 generalize w31.drew = w32 at BK203 BK205 HB HR207_7 HR208_7 hx207_0 hx207_1 hx207_2 hx207_3 hx207_4 hx207_5 hx207_6 hx207_7 hx208_0 hx208_1 hx208_2 hx208_3 hx208_4 hx208_5 hx208_6 hx208_7 hHeld ⊢
 refine take_ (i := 0) (N := some 13) (v := ?_) (a' := ?_) m1_ rfl rfl (take_ofW HT_.out HW_.out s2_) (fun _ _ _ h => h) (Or.inl ⟨by rfl, ?_⟩) hHeld ?_ ?_
 rotate_left
 {
 rintro w' ⟨s0, s1, s2, s3, s4, s5, s6, s7, s8, s9, s10, s11, s12, s13, s14, s15, s16, s17, s18, s19, s20, s21, s22, s23, s24, s25⟩
 go_simp
 with_reducible rfl}
 rotate_left
 · exact p1_
 refine one_ (i := 1) (N := some 14) m2_ rfl rfl (one_of HT_.out s2_) (by decide) (fun K hK => ?_)
 refine goes_ Try.func59 s2_ rfl #[.agg #[.int .i64 ((rd_T81 l0_1 x8_1).f0), .int .i64 ((rd_T81 l0_1 x8_1).f1), .int .i64 ((rd_T81 l0_1 x8_1).f2), .string ((rd_T81 l0_1 x8_1).f3), .int .i64 ((rd_T81 l0_1 x8_1).f4), .bool ((rd_T81 l0_1 x8_1).f5), .int .i64 ((rd_T81 l0_1 x8_1).f6), .slice A204_7 ((rd_T81 l0_1 x8_1).f7).length c204_7]] (by rfl) rfl rfl s3_ ?_
 with_reducible refine (impl_ValidMessage.calls k1 ((rd_T81 l0_1 x8_1).f0) ((rd_T81 l0_1 x8_1).f1) ((rd_T81 l0_1 x8_1).f2) ((rd_T81 l0_1 x8_1).f3) ((rd_T81 l0_1 x8_1).f4) ((rd_T81 l0_1 x8_1).f5) ((rd_T81 l0_1 x8_1).f6) _ _ ((rd_T81 l0_1 x8_1).f7) true _ ?side1 ?side2 A7.out).mono ?_
 (case side1 => repeat (first | exact (Kd.C_below HR204_7.out HB.out) | (with_reducible refine Kd.C_alloc ?_ _) | (with_reducible refine Kd.C_drewN ?_ _) | (with_reducible refine Kd.C_drew ?_)))
 (case side2 => exact HC204_7.out)
 rintro e w33 ⟨rfl, hb⟩
 refine ⟨_, rfl, ?_⟩
 have n0_ := Aside0.mk (blk_below (g := gb203) (o := .cells #[.int .i64 a0_0, .slice (some ad204) l0_1.length c0_1] 38 (0, 0)) (b1_ BK203.out) hb)
 have n1_ := Aside0.mk (blk_below (g := gb205) (o := .cells #[.int .i64 ((rd_T81 l0_1 x8_1).f0), .int .i64 ((rd_T81 l0_1 x8_1).f1), .int .i64 ((rd_T81 l0_1 x8_1).f2), .string ((rd_T81 l0_1 x8_1).f3), .int .i64 ((rd_T81 l0_1 x8_1).f4), .bool ((rd_T81 l0_1 x8_1).f5), .int .i64 ((rd_T81 l0_1 x8_1).f6), .slice A204_7 ((rd_T81 l0_1 x8_1).f7).length c204_7] 81 (0, 0)) (b1_ BK205.out) hb)
 have n2_ := Aside0.mk (below_step (by repeat (first | (with_reducible first | exact HB.out | apply below_alloc | apply pw_below_drewN | apply below_drew1 | refine below_set ?_ GE203.out | refine below_set ?_ GE205.out) | exact HB.out)) hb)
 clear BK203
 clear BK205
 clear HB
 have BK203 := n0_
 have BK205 := n1_
 have HB := n2_
 clear n0_ n1_ n2_
 (try clear hb)
 (try clear hb2)
 (try clear hk)
 (try clear hi)
 refine hK.out _ _ ⟨(blk_cell BK205.out 0).trans rfl, (blk_cell BK205.out 1).trans rfl, (blk_cell BK205.out 2).trans rfl, (blk_cell BK205.out 3).trans rfl, (blk_cell BK205.out 4).trans rfl, (blk_cell BK205.out 5).trans rfl, (blk_cell BK205.out 6).trans rfl, (blk_cell BK205.out 7).trans rfl, (blk_cell BK203.out 0).trans rfl, (blk_cell BK203.out 1).trans rfl, ((HB.out.cell (World.block_lt_of_cell? w _ hw207_0)).trans hw207_0), ((HB.out.cell (World.block_lt_of_cell? w _ hw207_1)).trans hw207_1), ((HB.out.cell (World.block_lt_of_cell? w _ hw207_2)).trans hw207_2), ((HB.out.cell (World.block_lt_of_cell? w _ hw207_3)).trans hw207_3), ((HB.out.cell (World.block_lt_of_cell? w _ hw207_4)).trans hw207_4), ((HB.out.cell (World.block_lt_of_cell? w _ hw207_5)).trans hw207_5), ((HB.out.cell (World.block_lt_of_cell? w _ hw207_6)).trans hw207_6), ((HB.out.cell (World.block_lt_of_cell? w _ hw207_7)).trans hw207_7), ((HB.out.cell (World.block_lt_of_cell? w _ hw208_0)).trans hw208_0), ((HB.out.cell (World.block_lt_of_cell? w _ hw208_1)).trans hw208_1), ((HB.out.cell (World.block_lt_of_cell? w _ hw208_2)).trans hw208_2), ((HB.out.cell (World.block_lt_of_cell? w _ hw208_3)).trans hw208_3), ((HB.out.cell (World.block_lt_of_cell? w _ hw208_4)).trans hw208_4), ((HB.out.cell (World.block_lt_of_cell? w _ hw208_5)).trans hw208_5), ((HB.out.cell (World.block_lt_of_cell? w _ hw208_6)).trans hw208_6), ((HB.out.cell (World.block_lt_of_cell? w _ hw208_7)).trans hw208_7)⟩ (fun hHeld => ?_)
 clear hK K
 refine norm_ (a' := ?_) ?_ ?_
 rotate_left
 {
 show Act.put _ (some 14) _ = _
 simp only [Act.put, List.setIfInBounds_toArray, List.set_cons_zero, List.set_cons_succ, i64_w, i32_w]
 rfl}
 refine pu_ 2 15 m3_ (any_of HT_.out s2_) ?_
 refine pu_ 3 16 m4_ (any_of HT_.out s2_) ?_
 refine pu_ 4 17 m5_ (any_of HT_.out s2_) ?_
 refine pu_ 6 19 m6_ (any_of HT_.out s2_) ?_
 refine take_ (i := 5) (N := some 18) (v := ?_) (a' := ?_) m7_ rfl rfl (take_ofW HT_.out HW_.out s2_) (fun _ _ _ h => h) (Or.inl ⟨by rfl, ?_⟩) hHeld ?_ ?_
 rotate_left
 {
 rintro w' ⟨s0, s1, s2, s3, s4, s5, s6, s7, s8, s9, s10, s11, s12, s13, s14, s15, s16, s17, s18, s19, s20, s21, s22, s23, s24, s25⟩
 go_simp
 with_reducible rfl}
 rotate_left
 · exact p1_
 refine take_ (i := 7) (N := some 20) (v := ?_) (a' := ?_) m8_ rfl rfl (take_ofW HT_.out HW_.out s2_) (fun _ _ _ h => h) (Or.inl ⟨by rfl, ?_⟩) hHeld ?_ ?_
 rotate_left
 {
 rintro w' ⟨s0, s1, s2, s3, s4, s5, s6, s7, s8, s9, s10, s11, s12, s13, s14, s15, s16, s17, s18, s19, s20, s21, s22, s23, s24, s25⟩
 go_simp
 with_reducible rfl}
 rotate_left
 · exact p1_
 refine pu_ 8 21 m9_ (any_of HT_.out s2_) ?_
 refine pu_ 9 22 m10_ (any_of HT_.out s2_) ?_
 refine pu_ 10 23 m11_ (any_of HT_.out s2_) ?_
 refine pu_ 11 24 m12_ (any_of HT_.out s2_) ?_
 refine pu_ 12 25 m13_ (any_of HT_.out s2_) ?_
 refine pu_ 13 26 m14_ (any_of HT_.out s2_) ?_
 refine pu_ 14 27 m15_ (any_of HT_.out s2_) ?_
 refine pu_ 16 29 m39_ (any_of HT_.out s2_) ?_
 refine pu_ 17 30 m40_ (any_of HT_.out s2_) ?_
 refine pu_ 21 34 m41_ (any_of HT_.out s2_) ?_
 refine take_ (i := 15) (N := some 28) (v := ?_) (a' := ?_) m42_ rfl rfl (take_ofW HT_.out HW_.out s2_) (fun _ _ _ h => h) (Or.inl ⟨by rfl, ?_⟩) hHeld ?_ ?_
 rotate_left
 {
 rintro w' ⟨s0, s1, s2, s3, s4, s5, s6, s7, s8, s9, s10, s11, s12, s13, s14, s15, s16, s17, s18, s19, s20, s21, s22, s23, s24, s25⟩
 go_simp
 with_reducible rfl}
 rotate_left
 · exact p1_
 refine pu_ 18 31 m43_ (any_of HT_.out s2_) ?_
 refine pu_ 19 32 m44_ (any_of HT_.out s2_) ?_
 refine take_ (i := 20) (N := some 33) (v := ?_) (a' := ?_) m22_ rfl rfl (take_ofW HT_.out HW_.out s2_) (fun _ _ _ h => h) (Or.inl ⟨by rfl, ?_⟩) hHeld ?_ ?_
 rotate_left
 {
 rintro w' ⟨s0, s1, s2, s3, s4, s5, s6, s7, s8, s9, s10, s11, s12, s13, s14, s15, s16, s17, s18, s19, s20, s21, s22, s23, s24, s25⟩
 go_simp
 with_reducible rfl}
 rotate_left
 · exact p1_
 refine take_ (i := 22) (N := some 35) (v := ?_) (a' := ?_) m23_ rfl rfl (take_ofW HT_.out HW_.out s2_) (fun _ _ _ h => h) (Or.inl ⟨by rfl, ?_⟩) hHeld ?_ ?_
 rotate_left
 {
 rintro w' ⟨s0, s1, s2, s3, s4, s5, s6, s7, s8, s9, s10, s11, s12, s13, s14, s15, s16, s17, s18, s19, s20, s21, s22, s23, s24, s25⟩
 go_simp
 with_reducible rfl}
 rotate_left
 · exact p1_
 refine pu_ 23 36 m24_ (any_of HT_.out s2_) ?_
 refine pu_ 24 37 m25_ (any_of HT_.out s2_) ?_
 refine pu_ 25 38 m26_ (any_of HT_.out s2_) ?_
 refine pu_ 27 40 m45_ (any_of HT_.out s2_) ?_
 refine pu_ 28 41 m46_ (any_of HT_.out s2_) ?_
 refine pu_ 32 45 m47_ (any_of HT_.out s2_) ?_
 refine take_ (i := 26) (N := some 39) (v := ?_) (a' := ?_) m48_ rfl rfl (take_ofW HT_.out HW_.out s2_) (fun _ _ _ h => h) (Or.inl ⟨by rfl, ?_⟩) hHeld ?_ ?_
 rotate_left
 {
 rintro w' ⟨s0, s1, s2, s3, s4, s5, s6, s7, s8, s9, s10, s11, s12, s13, s14, s15, s16, s17, s18, s19, s20, s21, s22, s23, s24, s25⟩
 go_simp
 with_reducible rfl}
 rotate_left
 · exact p1_
 refine pu_ 29 42 m49_ (any_of HT_.out s2_) ?_
 refine pu_ 30 43 m50_ (any_of HT_.out s2_) ?_
 refine take_ (i := 31) (N := some 44) (v := ?_) (a' := ?_) m33_ rfl rfl (take_ofW HT_.out HW_.out s2_) (fun _ _ _ h => h) (Or.inl ⟨by rfl, ?_⟩) hHeld ?_ ?_
 rotate_left
 {
 rintro w' ⟨s0, s1, s2, s3, s4, s5, s6, s7, s8, s9, s10, s11, s12, s13, s14, s15, s16, s17, s18, s19, s20, s21, s22, s23, s24, s25⟩
 go_simp
 with_reducible rfl}
 rotate_left
 · exact p1_
 refine take_ (i := 33) (N := some 46) (v := ?_) (a' := ?_) m34_ rfl rfl (take_ofW HT_.out HW_.out s2_) (fun _ _ _ h => h) (Or.inl ⟨by rfl, ?_⟩) hHeld ?_ ?_
 rotate_left
 {
 rintro w' ⟨s0, s1, s2, s3, s4, s5, s6, s7, s8, s9, s10, s11, s12, s13, s14, s15, s16, s17, s18, s19, s20, s21, s22, s23, s24, s25⟩
 go_simp
 with_reducible rfl}
 rotate_left
 · exact p1_
 refine pu_ 34 47 m35_ (any_of HT_.out s2_) ?_
 refine pu_ 35 48 m36_ (any_of HT_.out s2_) ?_
 refine pu_ 36 49 m37_ (any_of HT_.out s2_) ?_
 refine pu_ 37 50 m38_ (any_of HT_.out s2_) ?_
 refine done_ (done_of HT_.out s2_) ?_
 try go_wp2
 go_ret
 exact ⟨by first | rfl | (simp [errW_none, errW_some] <;> rfl) | (simp only [← hji17]; first | rfl | (simp [errW_none, errW_some] <;> rfl)) | (simp [*, errW_none, errW_some] <;> rfl), by repeat (first | (with_reducible first | exact HB.out | apply below_alloc | apply pw_below_drewN | apply below_drew1 | refine below_set ?_ GE203.out | refine below_set ?_ GE205.out) | exact HB.out)⟩}
 {
 rw [if_neg c27] at H
 have c27b0 : decide (((rd_T81 l0_1 x8_1).f2) < ((rd_T81 l0_1 (ji17)).f2)) = false := decide_eq_false c27
 clear c27
 have H' := Aside0.mk H
 clear H
 have p204 : 0 ≤ (x8_1 : Int) := of_decide_eq_true (by first | (with_reducible assumption) | assumption)
 have q204 : x8_1 < (l0_1.length : Int) := of_decide_eq_true (by first | (with_reducible assumption) | assumption)
 obtain ⟨ad204, A204_7, c204_7, e204, hx204_0, hx204_1, hx204_2, hx204_3, hx204_4, hx204_5, hx204_6, hx204_7, hl204_7, hi204_7⟩ := at_T81 HR0_1.out x8_1 p204 q204
 cases e204
 replace hx204_0 := (HB.out.cell (World.block_lt_of_cell? w _ hx204_0)).trans hx204_0
 replace hx204_1 := (HB.out.cell (World.block_lt_of_cell? w _ hx204_1)).trans hx204_1
 replace hx204_2 := (HB.out.cell (World.block_lt_of_cell? w _ hx204_2)).trans hx204_2
 replace hx204_3 := (HB.out.cell (World.block_lt_of_cell? w _ hx204_3)).trans hx204_3
 replace hx204_4 := (HB.out.cell (World.block_lt_of_cell? w _ hx204_4)).trans hx204_4
 replace hx204_5 := (HB.out.cell (World.block_lt_of_cell? w _ hx204_5)).trans hx204_5
 replace hx204_6 := (HB.out.cell (World.block_lt_of_cell? w _ hx204_6)).trans hx204_6
 replace hx204_7 := (HB.out.cell (World.block_lt_of_cell? w _ hx204_7)).trans hx204_7
 have HR204_7 := Aside0.mk hi204_7
 have HC204_7 := Aside0.mk hl204_7
 clear hi204_7 hl204_7
 replace p204 := eq_true p204
 replace q204 := eq_true q204
 try go_wp2_with (first | ((with_reducible refine gate_dst (N := 4) rfl ?_); refine box_event ?hg (N := 4) ?hd (cs := #[.int .i64 0, .int .i64 0, .int .i64 0, .string (⟨#[]⟩ : ByteArray), .int .i64 0, .bool false, .int .i64 0, .slice none 0 0]) (t := 81) ?hr ?_; (case hd => rfl); (case hg => rfl); (case hr => first | (go_simp; done) | (go_simp; rfl)); intro gb205 hg w34 hbox hb; have n0_ := Aside0.mk (blk_below (g := gb203) (o := .cells #[.int .i64 a0_0, .slice (some ad204) l0_1.length c0_1] 38 (0, 0)) (b1_ BK203.out) hb); have n1_ := Aside0.mk (below_step (by repeat (first | (with_reducible first | exact HB.out | apply below_alloc | apply pw_below_drewN | apply below_drew1 | refine below_set ?_ GE203.out) | exact HB.out)) hb); have n2_ := Aside0.mk (hbox); have n3_ := Aside0.mk ((by rw [hg]; exact (below_size (by repeat (first | (with_reducible first | exact HB.out | apply below_alloc | apply pw_below_drewN | apply below_drew1 | refine below_set ?_ GE203.out) | exact HB.out))) : w.heap.size ≤ gb205)); have n4_ := Aside0.mk ((by rw [hg]; exact (below_size (by repeat (first | (with_reducible first | exact HB.out | apply below_alloc | apply pw_below_drewN | apply below_drew1 | refine below_set ?_ GE203.out) | exact HB.out))) : w.heap.size ≤ gb205)); have n5_ := Aside0.mk ((by rw [hg]; exact Nat.ne_of_lt (blk_lt (g := gb203) (o := .cells #[.int .i64 a0_0, .slice (some ad204) l0_1.length c0_1] 38 (0, 0)) (b1_ BK203.out)) : gb203 ≠ gb205)); have n6_ := Aside0.mk ((by rw [hg]; exact Nat.ne_of_gt (blk_lt (g := gb203) (o := .cells #[.int .i64 a0_0, .slice (some ad204) l0_1.length c0_1] 38 (0, 0)) (b1_ BK203.out)) : gb205 ≠ gb203)); clear BK203; clear HB; have BK203 := n0_; have HB := n1_; have BK205 := n2_; have GW205 := n3_; have GE205 := n4_; have NB203_205 := n5_; have NB205_203 := n6_; clear n0_ n1_ n2_ n3_ n4_ n5_ n6_; clear hb hbox hg; have hnb35 := NB205_203.out; have hnc35 := NB203_205.out; have hcz36_0 : w34.cell? ⟨gb205, 0, none⟩ = some (.int .i64 0) := (blk_cell BK205.out 0).trans rfl; have hcz36_1 : w34.cell? ⟨gb205, 1, none⟩ = some (.int .i64 0) := (blk_cell BK205.out 1).trans rfl; have hcz36_2 : w34.cell? ⟨gb205, 2, none⟩ = some (.int .i64 0) := (blk_cell BK205.out 2).trans rfl; have hcz36_3 : w34.cell? ⟨gb205, 3, none⟩ = some (.string (⟨#[]⟩ : ByteArray)) := (blk_cell BK205.out 3).trans rfl; have hcz36_4 : w34.cell? ⟨gb205, 4, none⟩ = some (.int .i64 0) := (blk_cell BK205.out 4).trans rfl; have hcz36_5 : w34.cell? ⟨gb205, 5, none⟩ = some (.bool false) := (blk_cell BK205.out 5).trans rfl; have hcz36_6 : w34.cell? ⟨gb205, 6, none⟩ = some (.int .i64 0) := (blk_cell BK205.out 6).trans rfl; have hcz36_7 : w34.cell? ⟨gb205, 7, none⟩ = some (.slice none 0 0) := (blk_cell BK205.out 7).trans rfl; have hfz36_0 := blk_frozen BK205.out 0; have hfz36_1 := blk_frozen BK205.out 1; have hfz36_2 := blk_frozen BK205.out 2; have hfz36_3 := blk_frozen BK205.out 3; have hfz36_4 := blk_frozen BK205.out 4; have hfz36_5 := blk_frozen BK205.out 5; have hfz36_6 := blk_frozen BK205.out 6; have hfz36_7 := blk_frozen BK205.out 7))
 have n0_ : Aside0 (((((((((w34.setCell ⟨gb205, 0, none⟩ (.int .i64 ((rd_T81 l0_1 x8_1).f0))).setCell ⟨gb205, 1, none⟩ (.int .i64 ((rd_T81 l0_1 x8_1).f1))).setCell ⟨gb205, 2, none⟩ (.int .i64 ((rd_T81 l0_1 x8_1).f2))).setCell ⟨gb205, 3, none⟩ (.string ((rd_T81 l0_1 x8_1).f3))).setCell ⟨gb205, 4, none⟩ (.int .i64 ((rd_T81 l0_1 x8_1).f4))).setCell ⟨gb205, 5, none⟩ (.bool ((rd_T81 l0_1 x8_1).f5))).setCell ⟨gb205, 6, none⟩ (.int .i64 ((rd_T81 l0_1 x8_1).f6))).setCell ⟨gb205, 7, none⟩ (.slice A204_7 ((rd_T81 l0_1 x8_1).f7).length c204_7)).heap[gb203]? = some (.cells #[.int .i64 a0_0, .slice (some ad204) l0_1.length c0_1] 38 (0, 0))) := ⟨by (with_reducible repeat (first | refine blk_drewN ?_ _ | refine blk_drew ?_ | refine blk_alloc ?_ _)); refine blk_far ?_ NB203_205.out _; (with_reducible repeat (first | refine blk_drewN ?_ _ | refine blk_drew ?_ | refine blk_alloc ?_ _)); refine blk_far ?_ NB203_205.out _; (with_reducible repeat (first | refine blk_drewN ?_ _ | refine blk_drew ?_ | refine blk_alloc ?_ _)); refine blk_far ?_ NB203_205.out _; (with_reducible repeat (first | refine blk_drewN ?_ _ | refine blk_drew ?_ | refine blk_alloc ?_ _)); refine blk_far ?_ NB203_205.out _; (with_reducible repeat (first | refine blk_drewN ?_ _ | refine blk_drew ?_ | refine blk_alloc ?_ _)); refine blk_far ?_ NB203_205.out _; (with_reducible repeat (first | refine blk_drewN ?_ _ | refine blk_drew ?_ | refine blk_alloc ?_ _)); refine blk_far ?_ NB203_205.out _; (with_reducible repeat (first | refine blk_drewN ?_ _ | refine blk_drew ?_ | refine blk_alloc ?_ _)); refine blk_far ?_ NB203_205.out _; (with_reducible repeat (first | refine blk_drewN ?_ _ | refine blk_drew ?_ | refine blk_alloc ?_ _)); refine blk_far ?_ NB203_205.out _; (with_reducible repeat (first | refine blk_drewN ?_ _ | refine blk_drew ?_ | refine blk_alloc ?_ _)); exact BK203.out⟩
 have n1_ : Aside0 (((((((((w34.setCell ⟨gb205, 0, none⟩ (.int .i64 ((rd_T81 l0_1 x8_1).f0))).setCell ⟨gb205, 1, none⟩ (.int .i64 ((rd_T81 l0_1 x8_1).f1))).setCell ⟨gb205, 2, none⟩ (.int .i64 ((rd_T81 l0_1 x8_1).f2))).setCell ⟨gb205, 3, none⟩ (.string ((rd_T81 l0_1 x8_1).f3))).setCell ⟨gb205, 4, none⟩ (.int .i64 ((rd_T81 l0_1 x8_1).f4))).setCell ⟨gb205, 5, none⟩ (.bool ((rd_T81 l0_1 x8_1).f5))).setCell ⟨gb205, 6, none⟩ (.int .i64 ((rd_T81 l0_1 x8_1).f6))).setCell ⟨gb205, 7, none⟩ (.slice A204_7 ((rd_T81 l0_1 x8_1).f7).length c204_7)).heap[gb205]? = some (.cells #[.int .i64 ((rd_T81 l0_1 x8_1).f0), .int .i64 ((rd_T81 l0_1 x8_1).f1), .int .i64 ((rd_T81 l0_1 x8_1).f2), .string ((rd_T81 l0_1 x8_1).f3), .int .i64 ((rd_T81 l0_1 x8_1).f4), .bool ((rd_T81 l0_1 x8_1).f5), .int .i64 ((rd_T81 l0_1 x8_1).f6), .slice A204_7 ((rd_T81 l0_1 x8_1).f7).length c204_7] 81 (0, 0))) := ⟨by (with_reducible repeat (first | refine blk_drewN ?_ _ | refine blk_drew ?_ | refine blk_alloc ?_ _)); refine blk_put (cs := #[.int .i64 ((rd_T81 l0_1 x8_1).f0), .int .i64 ((rd_T81 l0_1 x8_1).f1), .int .i64 ((rd_T81 l0_1 x8_1).f2), .string ((rd_T81 l0_1 x8_1).f3), .int .i64 ((rd_T81 l0_1 x8_1).f4), .bool ((rd_T81 l0_1 x8_1).f5), .int .i64 ((rd_T81 l0_1 x8_1).f6), .slice none 0 0]) ?_ 7 _ rfl; (with_reducible repeat (first | refine blk_drewN ?_ _ | refine blk_drew ?_ | refine blk_alloc ?_ _)); refine blk_put (cs := #[.int .i64 ((rd_T81 l0_1 x8_1).f0), .int .i64 ((rd_T81 l0_1 x8_1).f1), .int .i64 ((rd_T81 l0_1 x8_1).f2), .string ((rd_T81 l0_1 x8_1).f3), .int .i64 ((rd_T81 l0_1 x8_1).f4), .bool ((rd_T81 l0_1 x8_1).f5), .int .i64 0, .slice none 0 0]) ?_ 6 _ rfl; (with_reducible repeat (first | refine blk_drewN ?_ _ | refine blk_drew ?_ | refine blk_alloc ?_ _)); refine blk_put (cs := #[.int .i64 ((rd_T81 l0_1 x8_1).f0), .int .i64 ((rd_T81 l0_1 x8_1).f1), .int .i64 ((rd_T81 l0_1 x8_1).f2), .string ((rd_T81 l0_1 x8_1).f3), .int .i64 ((rd_T81 l0_1 x8_1).f4), .bool false, .int .i64 0, .slice none 0 0]) ?_ 5 _ rfl; (with_reducible repeat (first | refine blk_drewN ?_ _ | refine blk_drew ?_ | refine blk_alloc ?_ _)); refine blk_put (cs := #[.int .i64 ((rd_T81 l0_1 x8_1).f0), .int .i64 ((rd_T81 l0_1 x8_1).f1), .int .i64 ((rd_T81 l0_1 x8_1).f2), .string ((rd_T81 l0_1 x8_1).f3), .int .i64 0, .bool false, .int .i64 0, .slice none 0 0]) ?_ 4 _ rfl; (with_reducible repeat (first | refine blk_drewN ?_ _ | refine blk_drew ?_ | refine blk_alloc ?_ _)); refine blk_put (cs := #[.int .i64 ((rd_T81 l0_1 x8_1).f0), .int .i64 ((rd_T81 l0_1 x8_1).f1), .int .i64 ((rd_T81 l0_1 x8_1).f2), .string (⟨#[]⟩ : ByteArray), .int .i64 0, .bool false, .int .i64 0, .slice none 0 0]) ?_ 3 _ rfl; (with_reducible repeat (first | refine blk_drewN ?_ _ | refine blk_drew ?_ | refine blk_alloc ?_ _)); refine blk_put (cs := #[.int .i64 ((rd_T81 l0_1 x8_1).f0), .int .i64 ((rd_T81 l0_1 x8_1).f1), .int .i64 0, .string (⟨#[]⟩ : ByteArray), .int .i64 0, .bool false, .int .i64 0, .slice none 0 0]) ?_ 2 _ rfl; (with_reducible repeat (first | refine blk_drewN ?_ _ | refine blk_drew ?_ | refine blk_alloc ?_ _)); refine blk_put (cs := #[.int .i64 ((rd_T81 l0_1 x8_1).f0), .int .i64 0, .int .i64 0, .string (⟨#[]⟩ : ByteArray), .int .i64 0, .bool false, .int .i64 0, .slice none 0 0]) ?_ 1 _ rfl; (with_reducible repeat (first | refine blk_drewN ?_ _ | refine blk_drew ?_ | refine blk_alloc ?_ _)); refine blk_put (cs := #[.int .i64 0, .int .i64 0, .int .i64 0, .string (⟨#[]⟩ : ByteArray), .int .i64 0, .bool false, .int .i64 0, .slice none 0 0]) ?_ 0 _ rfl; (with_reducible repeat (first | refine blk_drewN ?_ _ | refine blk_drew ?_ | refine blk_alloc ?_ _)); exact BK205.out⟩
 have n2_ : Aside0 (Below w.heap.size w ((((((((w34.setCell ⟨gb205, 0, none⟩ (.int .i64 ((rd_T81 l0_1 x8_1).f0))).setCell ⟨gb205, 1, none⟩ (.int .i64 ((rd_T81 l0_1 x8_1).f1))).setCell ⟨gb205, 2, none⟩ (.int .i64 ((rd_T81 l0_1 x8_1).f2))).setCell ⟨gb205, 3, none⟩ (.string ((rd_T81 l0_1 x8_1).f3))).setCell ⟨gb205, 4, none⟩ (.int .i64 ((rd_T81 l0_1 x8_1).f4))).setCell ⟨gb205, 5, none⟩ (.bool ((rd_T81 l0_1 x8_1).f5))).setCell ⟨gb205, 6, none⟩ (.int .i64 ((rd_T81 l0_1 x8_1).f6))).setCell ⟨gb205, 7, none⟩ (.slice A204_7 ((rd_T81 l0_1 x8_1).f7).length c204_7))) := ⟨by repeat (first | (with_reducible first | exact HB.out | apply below_alloc | apply pw_below_drewN | apply below_drew1 | refine below_set ?_ GE203.out | refine below_set ?_ GE205.out) | exact HB.out)⟩
 (try clear BK203)
 (try clear BK205)
 (try clear HB)
 generalize ((((((((w34.setCell ⟨gb205, 0, none⟩ (.int .i64 ((rd_T81 l0_1 x8_1).f0))).setCell ⟨gb205, 1, none⟩ (.int .i64 ((rd_T81 l0_1 x8_1).f1))).setCell ⟨gb205, 2, none⟩ (.int .i64 ((rd_T81 l0_1 x8_1).f2))).setCell ⟨gb205, 3, none⟩ (.string ((rd_T81 l0_1 x8_1).f3))).setCell ⟨gb205, 4, none⟩ (.int .i64 ((rd_T81 l0_1 x8_1).f4))).setCell ⟨gb205, 5, none⟩ (.bool ((rd_T81 l0_1 x8_1).f5))).setCell ⟨gb205, 6, none⟩ (.int .i64 ((rd_T81 l0_1 x8_1).f6))).setCell ⟨gb205, 7, none⟩ (.slice A204_7 ((rd_T81 l0_1 x8_1).f7).length c204_7)) = w37 at n0_ n1_ n2_ ⊢
 have BK203 := n0_
 have BK205 := n1_
 have HB := n2_
 clear n0_ n1_ n2_
 have n0_ := Aside0.mk (blk_drew BK203.out)
 have n1_ := Aside0.mk (blk_drew BK205.out)
 have n2_ := Aside0.mk (below_drew1 HB.out)
 clear BK203
 clear BK205
 clear HB
 have BK203 := n0_
 have BK205 := n1_
 have HB := n2_
 clear n0_ n1_ n2_
 have p207 : 0 ≤ ((ji17) : Int) := of_decide_eq_true (by first | (with_reducible assumption) | assumption)
 have q207 : (ji17) < (l0_1.length : Int) := of_decide_eq_true (by first | (with_reducible assumption) | assumption)
 obtain ⟨ad207, A207_7, c207_7, e207, hx207_0, hx207_1, hx207_2, hx207_3, hx207_4, hx207_5, hx207_6, hx207_7, hl207_7, hi207_7⟩ := at_T81 HR0_1.out (ji17) p207 q207
 have hw207_7 := hx207_7
 have hw207_6 := hx207_6
 have hw207_5 := hx207_5
 have hw207_4 := hx207_4
 have hw207_3 := hx207_3
 have hw207_2 := hx207_2
 have hw207_1 := hx207_1
 have hw207_0 := hx207_0
 obtain rfl : ad204 = ad207 := (by injection e207)
 replace hx207_0 := (HB.out.cell (World.block_lt_of_cell? w _ hx207_0)).trans hx207_0
 replace hx207_1 := (HB.out.cell (World.block_lt_of_cell? w _ hx207_1)).trans hx207_1
 replace hx207_2 := (HB.out.cell (World.block_lt_of_cell? w _ hx207_2)).trans hx207_2
 replace hx207_3 := (HB.out.cell (World.block_lt_of_cell? w _ hx207_3)).trans hx207_3
 replace hx207_4 := (HB.out.cell (World.block_lt_of_cell? w _ hx207_4)).trans hx207_4
 replace hx207_5 := (HB.out.cell (World.block_lt_of_cell? w _ hx207_5)).trans hx207_5
 replace hx207_6 := (HB.out.cell (World.block_lt_of_cell? w _ hx207_6)).trans hx207_6
 replace hx207_7 := (HB.out.cell (World.block_lt_of_cell? w _ hx207_7)).trans hx207_7
 have HR207_7 := Aside0.mk hi207_7
 have HC207_7 := Aside0.mk hl207_7
 clear hi207_7 hl207_7
 replace p207 := eq_true p207
 replace q207 := eq_true q207
 have p208 : 0 ≤ ((ji17) : Int) := of_decide_eq_true (by first | (with_reducible assumption) | assumption)
 have q208 : (ji17) < (l0_1.length : Int) := of_decide_eq_true (by first | (with_reducible assumption) | assumption)
 obtain ⟨ad208, A208_7, c208_7, e208, hx208_0, hx208_1, hx208_2, hx208_3, hx208_4, hx208_5, hx208_6, hx208_7, hl208_7, hi208_7⟩ := at_T81 HR0_1.out (ji17) p208 q208
 have hw208_7 := hx208_7
 have hw208_6 := hx208_6
 have hw208_5 := hx208_5
 have hw208_4 := hx208_4
 have hw208_3 := hx208_3
 have hw208_2 := hx208_2
 have hw208_1 := hx208_1
 have hw208_0 := hx208_0
 obtain rfl : ad204 = ad208 := (by injection e208)
 replace hx208_0 := (HB.out.cell (World.block_lt_of_cell? w _ hx208_0)).trans hx208_0
 replace hx208_1 := (HB.out.cell (World.block_lt_of_cell? w _ hx208_1)).trans hx208_1
 replace hx208_2 := (HB.out.cell (World.block_lt_of_cell? w _ hx208_2)).trans hx208_2
 replace hx208_3 := (HB.out.cell (World.block_lt_of_cell? w _ hx208_3)).trans hx208_3
 replace hx208_4 := (HB.out.cell (World.block_lt_of_cell? w _ hx208_4)).trans hx208_4
 replace hx208_5 := (HB.out.cell (World.block_lt_of_cell? w _ hx208_5)).trans hx208_5
 replace hx208_6 := (HB.out.cell (World.block_lt_of_cell? w _ hx208_6)).trans hx208_6
 replace hx208_7 := (HB.out.cell (World.block_lt_of_cell? w _ hx208_7)).trans hx208_7
 have HR208_7 := Aside0.mk hi208_7
 have HC208_7 := Aside0.mk hl208_7
 clear hi208_7 hl208_7
 replace p208 := eq_true p208
 replace q208 := eq_true q208
 have ea_ := Option.some.inj (hx207_7.symm.trans hx208_7)
 injection ea_ with ea_ en_ ec_
 subst ea_
 subst ec_
 clear en_
 refine start_ (n := 38) (S := fun w' => w'.cell? ⟨gb205, 0, none⟩ = some (.int .i64 ((rd_T81 l0_1 x8_1).f0)) ∧ w'.cell? ⟨gb205, 1, none⟩ = some (.int .i64 ((rd_T81 l0_1 x8_1).f1)) ∧ w'.cell? ⟨gb205, 2, none⟩ = some (.int .i64 ((rd_T81 l0_1 x8_1).f2)) ∧ w'.cell? ⟨gb205, 3, none⟩ = some (.string ((rd_T81 l0_1 x8_1).f3)) ∧ w'.cell? ⟨gb205, 4, none⟩ = some (.int .i64 ((rd_T81 l0_1 x8_1).f4)) ∧ w'.cell? ⟨gb205, 5, none⟩ = some (.bool ((rd_T81 l0_1 x8_1).f5)) ∧ w'.cell? ⟨gb205, 6, none⟩ = some (.int .i64 ((rd_T81 l0_1 x8_1).f6)) ∧ w'.cell? ⟨gb205, 7, none⟩ = some (.slice A204_7 ((rd_T81 l0_1 x8_1).f7).length c204_7) ∧ w'.cell? ⟨gb203, 0, none⟩ = some (.int .i64 a0_0) ∧ w'.cell? ⟨gb203, 1, none⟩ = some (.slice (some ad204) l0_1.length c0_1) ∧ w'.cell? (ad204.add (((ji17)).toNat * 8)) = some (.int .i64 ((rd_T81 l0_1 (ji17)).f0)) ∧ w'.cell? ⟨(ad204.add (((ji17)).toNat * 8)).block, (ad204.add (((ji17)).toNat * 8)).off + 1, none⟩ = some (.int .i64 ((rd_T81 l0_1 (ji17)).f1)) ∧ w'.cell? ⟨(ad204.add (((ji17)).toNat * 8)).block, (ad204.add (((ji17)).toNat * 8)).off + 2, none⟩ = some (.int .i64 ((rd_T81 l0_1 (ji17)).f2)) ∧ w'.cell? ⟨(ad204.add (((ji17)).toNat * 8)).block, (ad204.add (((ji17)).toNat * 8)).off + 3, none⟩ = some (.string ((rd_T81 l0_1 (ji17)).f3)) ∧ w'.cell? ⟨(ad204.add (((ji17)).toNat * 8)).block, (ad204.add (((ji17)).toNat * 8)).off + 4, none⟩ = some (.int .i64 ((rd_T81 l0_1 (ji17)).f4)) ∧ w'.cell? ⟨(ad204.add (((ji17)).toNat * 8)).block, (ad204.add (((ji17)).toNat * 8)).off + 5, none⟩ = some (.bool ((rd_T81 l0_1 (ji17)).f5)) ∧ w'.cell? ⟨(ad204.add (((ji17)).toNat * 8)).block, (ad204.add (((ji17)).toNat * 8)).off + 6, none⟩ = some (.int .i64 ((rd_T81 l0_1 (ji17)).f6)) ∧ w'.cell? ⟨(ad204.add (((ji17)).toNat * 8)).block, (ad204.add (((ji17)).toNat * 8)).off + 7, none⟩ = some (.slice A207_7 ((rd_T81 l0_1 (ji17)).f7).length c207_7) ∧ w'.cell? (ad204.add (((ji17)).toNat * 8)) = some (.int .i64 ((rd_T81 l0_1 (ji17)).f0)) ∧ w'.cell? ⟨(ad204.add (((ji17)).toNat * 8)).block, (ad204.add (((ji17)).toNat * 8)).off + 1, none⟩ = some (.int .i64 ((rd_T81 l0_1 (ji17)).f1)) ∧ w'.cell? ⟨(ad204.add (((ji17)).toNat * 8)).block, (ad204.add (((ji17)).toNat * 8)).off + 2, none⟩ = some (.int .i64 ((rd_T81 l0_1 (ji17)).f2)) ∧ w'.cell? ⟨(ad204.add (((ji17)).toNat * 8)).block, (ad204.add (((ji17)).toNat * 8)).off + 3, none⟩ = some (.string ((rd_T81 l0_1 (ji17)).f3)) ∧ w'.cell? ⟨(ad204.add (((ji17)).toNat * 8)).block, (ad204.add (((ji17)).toNat * 8)).off + 4, none⟩ = some (.int .i64 ((rd_T81 l0_1 (ji17)).f4)) ∧ w'.cell? ⟨(ad204.add (((ji17)).toNat * 8)).block, (ad204.add (((ji17)).toNat * 8)).off + 5, none⟩ = some (.bool ((rd_T81 l0_1 (ji17)).f5)) ∧ w'.cell? ⟨(ad204.add (((ji17)).toNat * 8)).block, (ad204.add (((ji17)).toNat * 8)).off + 6, none⟩ = some (.int .i64 ((rd_T81 l0_1 (ji17)).f6)) ∧ w'.cell? ⟨(ad204.add (((ji17)).toNat * 8)).block, (ad204.add (((ji17)).toNat * 8)).off + 7, none⟩ = some (.slice A207_7 ((rd_T81 l0_1 (ji17)).f7).length c207_7)) (ds := []) m0_ s2_ rfl rfl ⟨(blk_cell BK205.out 0).trans rfl, (blk_cell BK205.out 1).trans rfl, (blk_cell BK205.out 2).trans rfl, (blk_cell BK205.out 3).trans rfl, (blk_cell BK205.out 4).trans rfl, (blk_cell BK205.out 5).trans rfl, (blk_cell BK205.out 6).trans rfl, (blk_cell BK205.out 7).trans rfl, (blk_cell BK203.out 0).trans rfl, (blk_cell BK203.out 1).trans rfl, ((HB.out.cell (World.block_lt_of_cell? w _ hw207_0)).trans hw207_0), ((HB.out.cell (World.block_lt_of_cell? w _ hw207_1)).trans hw207_1), ((HB.out.cell (World.block_lt_of_cell? w _ hw207_2)).trans hw207_2), ((HB.out.cell (World.block_lt_of_cell? w _ hw207_3)).trans hw207_3), ((HB.out.cell (World.block_lt_of_cell? w _ hw207_4)).trans hw207_4), ((HB.out.cell (World.block_lt_of_cell? w _ hw207_5)).trans hw207_5), ((HB.out.cell (World.block_lt_of_cell? w _ hw207_6)).trans hw207_6), ((HB.out.cell (World.block_lt_of_cell? w _ hw207_7)).trans hw207_7), ((HB.out.cell (World.block_lt_of_cell? w _ hw208_0)).trans hw208_0), ((HB.out.cell (World.block_lt_of_cell? w _ hw208_1)).trans hw208_1), ((HB.out.cell (World.block_lt_of_cell? w _ hw208_2)).trans hw208_2), ((HB.out.cell (World.block_lt_of_cell? w _ hw208_3)).trans hw208_3), ((HB.out.cell (World.block_lt_of_cell? w _ hw208_4)).trans hw208_4), ((HB.out.cell (World.block_lt_of_cell? w _ hw208_5)).trans hw208_5), ((HB.out.cell (World.block_lt_of_cell? w _ hw208_6)).trans hw208_6), ((HB.out.cell (World.block_lt_of_cell? w _ hw208_7)).trans hw208_7)⟩ (fun hHeld => ?_); refine with_tabW impl_ValidLog.tab4 impl_ValidLog.bits4 (fun HT_ HW_ => ?_)
 generalize w37.drew = w38 at BK203 BK205 HB HR207_7 HR208_7 hx207_0 hx207_1 hx207_2 hx207_3 hx207_4 hx207_5 hx207_6 hx207_7 hx208_0 hx208_1 hx208_2 hx208_3 hx208_4 hx208_5 hx208_6 hx208_7 hHeld ⊢
 refine take_ (i := 0) (N := some 13) (v := ?_) (a' := ?_) m1_ rfl rfl (take_ofW HT_.out HW_.out s2_) (fun _ _ _ h => h) (Or.inl ⟨by rfl, ?_⟩) hHeld ?_ ?_
 rotate_left
 {
 rintro w' ⟨s0, s1, s2, s3, s4, s5, s6, s7, s8, s9, s10, s11, s12, s13, s14, s15, s16, s17, s18, s19, s20, s21, s22, s23, s24, s25⟩
 go_simp
 with_reducible rfl}
 rotate_left
 · exact p1_
 refine one_ (i := 1) (N := some 14) m2_ rfl rfl (one_of HT_.out s2_) (by decide) (fun K hK => ?_)
 refine goes_ Try.func59 s2_ rfl #[.agg #[.int .i64 ((rd_T81 l0_1 x8_1).f0), .int .i64 ((rd_T81 l0_1 x8_1).f1), .int .i64 ((rd_T81 l0_1 x8_1).f2), .string ((rd_T81 l0_1 x8_1).f3), .int .i64 ((rd_T81 l0_1 x8_1).f4), .bool ((rd_T81 l0_1 x8_1).f5), .int .i64 ((rd_T81 l0_1 x8_1).f6), .slice A204_7 ((rd_T81 l0_1 x8_1).f7).length c204_7]] (by rfl) rfl rfl s3_ ?_
 with_reducible refine (impl_ValidMessage.calls k1 ((rd_T81 l0_1 x8_1).f0) ((rd_T81 l0_1 x8_1).f1) ((rd_T81 l0_1 x8_1).f2) ((rd_T81 l0_1 x8_1).f3) ((rd_T81 l0_1 x8_1).f4) ((rd_T81 l0_1 x8_1).f5) ((rd_T81 l0_1 x8_1).f6) _ _ ((rd_T81 l0_1 x8_1).f7) true _ ?side1 ?side2 A7.out).mono ?_
 (case side1 => repeat (first | exact (Kd.C_below HR204_7.out HB.out) | (with_reducible refine Kd.C_alloc ?_ _) | (with_reducible refine Kd.C_drewN ?_ _) | (with_reducible refine Kd.C_drew ?_)))
 (case side2 => exact HC204_7.out)
 rintro e w39 ⟨rfl, hb⟩
 refine ⟨_, rfl, ?_⟩
 have n0_ := Aside0.mk (blk_below (g := gb203) (o := .cells #[.int .i64 a0_0, .slice (some ad204) l0_1.length c0_1] 38 (0, 0)) (b1_ BK203.out) hb)
 have n1_ := Aside0.mk (blk_below (g := gb205) (o := .cells #[.int .i64 ((rd_T81 l0_1 x8_1).f0), .int .i64 ((rd_T81 l0_1 x8_1).f1), .int .i64 ((rd_T81 l0_1 x8_1).f2), .string ((rd_T81 l0_1 x8_1).f3), .int .i64 ((rd_T81 l0_1 x8_1).f4), .bool ((rd_T81 l0_1 x8_1).f5), .int .i64 ((rd_T81 l0_1 x8_1).f6), .slice A204_7 ((rd_T81 l0_1 x8_1).f7).length c204_7] 81 (0, 0)) (b1_ BK205.out) hb)
 have n2_ := Aside0.mk (below_step (by repeat (first | (with_reducible first | exact HB.out | apply below_alloc | apply pw_below_drewN | apply below_drew1 | refine below_set ?_ GE203.out | refine below_set ?_ GE205.out) | exact HB.out)) hb)
 clear BK203
 clear BK205
 clear HB
 have BK203 := n0_
 have BK205 := n1_
 have HB := n2_
 clear n0_ n1_ n2_
 (try clear hb)
 (try clear hb2)
 (try clear hk)
 (try clear hi)
 refine hK.out _ _ ⟨(blk_cell BK205.out 0).trans rfl, (blk_cell BK205.out 1).trans rfl, (blk_cell BK205.out 2).trans rfl, (blk_cell BK205.out 3).trans rfl, (blk_cell BK205.out 4).trans rfl, (blk_cell BK205.out 5).trans rfl, (blk_cell BK205.out 6).trans rfl, (blk_cell BK205.out 7).trans rfl, (blk_cell BK203.out 0).trans rfl, (blk_cell BK203.out 1).trans rfl, ((HB.out.cell (World.block_lt_of_cell? w _ hw207_0)).trans hw207_0), ((HB.out.cell (World.block_lt_of_cell? w _ hw207_1)).trans hw207_1), ((HB.out.cell (World.block_lt_of_cell? w _ hw207_2)).trans hw207_2), ((HB.out.cell (World.block_lt_of_cell? w _ hw207_3)).trans hw207_3), ((HB.out.cell (World.block_lt_of_cell? w _ hw207_4)).trans hw207_4), ((HB.out.cell (World.block_lt_of_cell? w _ hw207_5)).trans hw207_5), ((HB.out.cell (World.block_lt_of_cell? w _ hw207_6)).trans hw207_6), ((HB.out.cell (World.block_lt_of_cell? w _ hw207_7)).trans hw207_7), ((HB.out.cell (World.block_lt_of_cell? w _ hw208_0)).trans hw208_0), ((HB.out.cell (World.block_lt_of_cell? w _ hw208_1)).trans hw208_1), ((HB.out.cell (World.block_lt_of_cell? w _ hw208_2)).trans hw208_2), ((HB.out.cell (World.block_lt_of_cell? w _ hw208_3)).trans hw208_3), ((HB.out.cell (World.block_lt_of_cell? w _ hw208_4)).trans hw208_4), ((HB.out.cell (World.block_lt_of_cell? w _ hw208_5)).trans hw208_5), ((HB.out.cell (World.block_lt_of_cell? w _ hw208_6)).trans hw208_6), ((HB.out.cell (World.block_lt_of_cell? w _ hw208_7)).trans hw208_7)⟩ (fun hHeld => ?_)
 clear hK K
 refine norm_ (a' := ?_) ?_ ?_
 rotate_left
 {
 show Act.put _ (some 14) _ = _
 simp only [Act.put, List.setIfInBounds_toArray, List.set_cons_zero, List.set_cons_succ, i64_w, i32_w]
 rfl}
 refine pu_ 2 15 m3_ (any_of HT_.out s2_) ?_
 refine pu_ 3 16 m4_ (any_of HT_.out s2_) ?_
 refine pu_ 4 17 m5_ (any_of HT_.out s2_) ?_
 refine pu_ 6 19 m6_ (any_of HT_.out s2_) ?_
 refine take_ (i := 5) (N := some 18) (v := ?_) (a' := ?_) m7_ rfl rfl (take_ofW HT_.out HW_.out s2_) (fun _ _ _ h => h) (Or.inl ⟨by rfl, ?_⟩) hHeld ?_ ?_
 rotate_left
 {
 rintro w' ⟨s0, s1, s2, s3, s4, s5, s6, s7, s8, s9, s10, s11, s12, s13, s14, s15, s16, s17, s18, s19, s20, s21, s22, s23, s24, s25⟩
 go_simp
 with_reducible rfl}
 rotate_left
 · exact p1_
 refine take_ (i := 7) (N := some 20) (v := ?_) (a' := ?_) m8_ rfl rfl (take_ofW HT_.out HW_.out s2_) (fun _ _ _ h => h) (Or.inl ⟨by rfl, ?_⟩) hHeld ?_ ?_
 rotate_left
 {
 rintro w' ⟨s0, s1, s2, s3, s4, s5, s6, s7, s8, s9, s10, s11, s12, s13, s14, s15, s16, s17, s18, s19, s20, s21, s22, s23, s24, s25⟩
 go_simp
 with_reducible rfl}
 rotate_left
 · exact p1_
 refine pu_ 8 21 m9_ (any_of HT_.out s2_) ?_
 refine pu_ 9 22 m10_ (any_of HT_.out s2_) ?_
 refine pu_ 10 23 m11_ (any_of HT_.out s2_) ?_
 refine pu_ 11 24 m12_ (any_of HT_.out s2_) ?_
 refine pu_ 12 25 m13_ (any_of HT_.out s2_) ?_
 refine pu_ 13 26 m14_ (any_of HT_.out s2_) ?_
 refine pu_ 14 27 m15_ (any_of HT_.out s2_) ?_
 refine pu_ 16 29 m39_ (any_of HT_.out s2_) ?_
 refine pu_ 17 30 m40_ (any_of HT_.out s2_) ?_
 refine pu_ 21 34 m41_ (any_of HT_.out s2_) ?_
 refine take_ (i := 15) (N := some 28) (v := ?_) (a' := ?_) m42_ rfl rfl (take_ofW HT_.out HW_.out s2_) (fun _ _ _ h => h) (Or.inl ⟨by rfl, ?_⟩) hHeld ?_ ?_
 rotate_left
 {
 rintro w' ⟨s0, s1, s2, s3, s4, s5, s6, s7, s8, s9, s10, s11, s12, s13, s14, s15, s16, s17, s18, s19, s20, s21, s22, s23, s24, s25⟩
 go_simp
 with_reducible rfl}
 rotate_left
 · exact p1_
 refine pu_ 18 31 m43_ (any_of HT_.out s2_) ?_
 refine pu_ 19 32 m44_ (any_of HT_.out s2_) ?_
 refine take_ (i := 20) (N := some 33) (v := ?_) (a' := ?_) m22_ rfl rfl (take_ofW HT_.out HW_.out s2_) (fun _ _ _ h => h) (Or.inl ⟨by rfl, ?_⟩) hHeld ?_ ?_
 rotate_left
 {
 rintro w' ⟨s0, s1, s2, s3, s4, s5, s6, s7, s8, s9, s10, s11, s12, s13, s14, s15, s16, s17, s18, s19, s20, s21, s22, s23, s24, s25⟩
 go_simp
 with_reducible rfl}
 rotate_left
 · exact p1_
 refine take_ (i := 22) (N := some 35) (v := ?_) (a' := ?_) m23_ rfl rfl (take_ofW HT_.out HW_.out s2_) (fun _ _ _ h => h) (Or.inl ⟨by rfl, ?_⟩) hHeld ?_ ?_
 rotate_left
 {
 rintro w' ⟨s0, s1, s2, s3, s4, s5, s6, s7, s8, s9, s10, s11, s12, s13, s14, s15, s16, s17, s18, s19, s20, s21, s22, s23, s24, s25⟩
 go_simp
 with_reducible rfl}
 rotate_left
 · exact p1_
 refine pu_ 23 36 m24_ (any_of HT_.out s2_) ?_
 refine pu_ 24 37 m25_ (any_of HT_.out s2_) ?_
 refine pu_ 25 38 m26_ (any_of HT_.out s2_) ?_
 refine pu_ 27 40 m45_ (any_of HT_.out s2_) ?_
 refine pu_ 28 41 m46_ (any_of HT_.out s2_) ?_
 refine pu_ 32 45 m47_ (any_of HT_.out s2_) ?_
 refine take_ (i := 26) (N := some 39) (v := ?_) (a' := ?_) m48_ rfl rfl (take_ofW HT_.out HW_.out s2_) (fun _ _ _ h => h) (Or.inl ⟨by rfl, ?_⟩) hHeld ?_ ?_
 rotate_left
 {
 rintro w' ⟨s0, s1, s2, s3, s4, s5, s6, s7, s8, s9, s10, s11, s12, s13, s14, s15, s16, s17, s18, s19, s20, s21, s22, s23, s24, s25⟩
 go_simp
 with_reducible rfl}
 rotate_left
 · exact p1_
 refine pu_ 29 42 m49_ (any_of HT_.out s2_) ?_
 refine pu_ 30 43 m50_ (any_of HT_.out s2_) ?_
 refine take_ (i := 31) (N := some 44) (v := ?_) (a' := ?_) m33_ rfl rfl (take_ofW HT_.out HW_.out s2_) (fun _ _ _ h => h) (Or.inl ⟨by rfl, ?_⟩) hHeld ?_ ?_
 rotate_left
 {
 rintro w' ⟨s0, s1, s2, s3, s4, s5, s6, s7, s8, s9, s10, s11, s12, s13, s14, s15, s16, s17, s18, s19, s20, s21, s22, s23, s24, s25⟩
 go_simp
 with_reducible rfl}
 rotate_left
 · exact p1_
 refine take_ (i := 33) (N := some 46) (v := ?_) (a' := ?_) m34_ rfl rfl (take_ofW HT_.out HW_.out s2_) (fun _ _ _ h => h) (Or.inl ⟨by rfl, ?_⟩) hHeld ?_ ?_
 rotate_left
 {
 rintro w' ⟨s0, s1, s2, s3, s4, s5, s6, s7, s8, s9, s10, s11, s12, s13, s14, s15, s16, s17, s18, s19, s20, s21, s22, s23, s24, s25⟩
 go_simp
 with_reducible rfl}
 rotate_left
 · exact p1_
 refine pu_ 34 47 m35_ (any_of HT_.out s2_) ?_
 refine pu_ 35 48 m36_ (any_of HT_.out s2_) ?_
 refine pu_ 36 49 m37_ (any_of HT_.out s2_) ?_
 refine pu_ 37 50 m38_ (any_of HT_.out s2_) ?_
 refine done_ (done_of HT_.out s2_) ?_
 try go_wp2
 go_roundg k1
 case measure => have := HK1.out; omega
 case rel => exact ⟨(wrap64 (x8_1 + 1)), s1_, H', ⟨by have := HK1.out; omega⟩, ⟨b1_ BK203.out⟩, ⟨by repeat (first | (with_reducible first | exact HB.out | apply below_alloc | apply pw_below_drewN | apply below_drew1 | refine below_set ?_ GE203.out | refine below_set ?_ GE205.out) | exact HB.out)⟩⟩}}}
 {
 rw [if_neg c19] at H
 exact absurd H (by simp)}}
 {
 rw [if_neg c18] at H
 exact absurd H (by simp)}}
 {
 rw [if_neg c16] at H
 have c16b0 : decide (0 < x8_1) = false := decide_eq_false c16
 clear c16
 have H' := Aside0.mk H
 clear H
 have p204 : 0 ≤ (x8_1 : Int) := of_decide_eq_true (by first | (with_reducible assumption) | assumption)
 have q204 : x8_1 < (l0_1.length : Int) := of_decide_eq_true (by first | (with_reducible assumption) | assumption)
 obtain ⟨ad204, A204_7, c204_7, e204, hx204_0, hx204_1, hx204_2, hx204_3, hx204_4, hx204_5, hx204_6, hx204_7, hl204_7, hi204_7⟩ := at_T81 HR0_1.out x8_1 p204 q204
 cases e204
 replace hx204_0 := (HB.out.cell (World.block_lt_of_cell? w _ hx204_0)).trans hx204_0
 replace hx204_1 := (HB.out.cell (World.block_lt_of_cell? w _ hx204_1)).trans hx204_1
 replace hx204_2 := (HB.out.cell (World.block_lt_of_cell? w _ hx204_2)).trans hx204_2
 replace hx204_3 := (HB.out.cell (World.block_lt_of_cell? w _ hx204_3)).trans hx204_3
 replace hx204_4 := (HB.out.cell (World.block_lt_of_cell? w _ hx204_4)).trans hx204_4
 replace hx204_5 := (HB.out.cell (World.block_lt_of_cell? w _ hx204_5)).trans hx204_5
 replace hx204_6 := (HB.out.cell (World.block_lt_of_cell? w _ hx204_6)).trans hx204_6
 replace hx204_7 := (HB.out.cell (World.block_lt_of_cell? w _ hx204_7)).trans hx204_7
 have HR204_7 := Aside0.mk hi204_7
 have HC204_7 := Aside0.mk hl204_7
 clear hi204_7 hl204_7
 replace p204 := eq_true p204
 replace q204 := eq_true q204
 try go_wp2_with (first | ((with_reducible refine gate_dst (N := 4) rfl ?_); refine box_event ?hg (N := 4) ?hd (cs := #[.int .i64 0, .int .i64 0, .int .i64 0, .string (⟨#[]⟩ : ByteArray), .int .i64 0, .bool false, .int .i64 0, .slice none 0 0]) (t := 81) ?hr ?_; (case hd => rfl); (case hg => rfl); (case hr => first | (go_simp; done) | (go_simp; rfl)); intro gb205 hg w40 hbox hb; have n0_ := Aside0.mk (blk_below (g := gb203) (o := .cells #[.int .i64 a0_0, .slice (some ad204) l0_1.length c0_1] 38 (0, 0)) (b1_ BK203.out) hb); have n1_ := Aside0.mk (below_step (by repeat (first | (with_reducible first | exact HB.out | apply below_alloc | apply pw_below_drewN | apply below_drew1 | refine below_set ?_ GE203.out) | exact HB.out)) hb); have n2_ := Aside0.mk (hbox); have n3_ := Aside0.mk ((by rw [hg]; exact (below_size (by repeat (first | (with_reducible first | exact HB.out | apply below_alloc | apply pw_below_drewN | apply below_drew1 | refine below_set ?_ GE203.out) | exact HB.out))) : w.heap.size ≤ gb205)); have n4_ := Aside0.mk ((by rw [hg]; exact (below_size (by repeat (first | (with_reducible first | exact HB.out | apply below_alloc | apply pw_below_drewN | apply below_drew1 | refine below_set ?_ GE203.out) | exact HB.out))) : w.heap.size ≤ gb205)); have n5_ := Aside0.mk ((by rw [hg]; exact Nat.ne_of_lt (blk_lt (g := gb203) (o := .cells #[.int .i64 a0_0, .slice (some ad204) l0_1.length c0_1] 38 (0, 0)) (b1_ BK203.out)) : gb203 ≠ gb205)); have n6_ := Aside0.mk ((by rw [hg]; exact Nat.ne_of_gt (blk_lt (g := gb203) (o := .cells #[.int .i64 a0_0, .slice (some ad204) l0_1.length c0_1] 38 (0, 0)) (b1_ BK203.out)) : gb205 ≠ gb203)); clear BK203; clear HB; have BK203 := n0_; have HB := n1_; have BK205 := n2_; have GW205 := n3_; have GE205 := n4_; have NB203_205 := n5_; have NB205_203 := n6_; clear n0_ n1_ n2_ n3_ n4_ n5_ n6_; clear hb hbox hg; have hnb41 := NB205_203.out; have hnc41 := NB203_205.out; have hcz42_0 : w40.cell? ⟨gb205, 0, none⟩ = some (.int .i64 0) := (blk_cell BK205.out 0).trans rfl; have hcz42_1 : w40.cell? ⟨gb205, 1, none⟩ = some (.int .i64 0) := (blk_cell BK205.out 1).trans rfl; have hcz42_2 : w40.cell? ⟨gb205, 2, none⟩ = some (.int .i64 0) := (blk_cell BK205.out 2).trans rfl; have hcz42_3 : w40.cell? ⟨gb205, 3, none⟩ = some (.string (⟨#[]⟩ : ByteArray)) := (blk_cell BK205.out 3).trans rfl; have hcz42_4 : w40.cell? ⟨gb205, 4, none⟩ = some (.int .i64 0) := (blk_cell BK205.out 4).trans rfl; have hcz42_5 : w40.cell? ⟨gb205, 5, none⟩ = some (.bool false) := (blk_cell BK205.out 5).trans rfl; have hcz42_6 : w40.cell? ⟨gb205, 6, none⟩ = some (.int .i64 0) := (blk_cell BK205.out 6).trans rfl; have hcz42_7 : w40.cell? ⟨gb205, 7, none⟩ = some (.slice none 0 0) := (blk_cell BK205.out 7).trans rfl; have hfz42_0 := blk_frozen BK205.out 0; have hfz42_1 := blk_frozen BK205.out 1; have hfz42_2 := blk_frozen BK205.out 2; have hfz42_3 := blk_frozen BK205.out 3; have hfz42_4 := blk_frozen BK205.out 4; have hfz42_5 := blk_frozen BK205.out 5; have hfz42_6 := blk_frozen BK205.out 6; have hfz42_7 := blk_frozen BK205.out 7))
 have n0_ : Aside0 (((((((((w40.setCell ⟨gb205, 0, none⟩ (.int .i64 ((rd_T81 l0_1 x8_1).f0))).setCell ⟨gb205, 1, none⟩ (.int .i64 ((rd_T81 l0_1 x8_1).f1))).setCell ⟨gb205, 2, none⟩ (.int .i64 ((rd_T81 l0_1 x8_1).f2))).setCell ⟨gb205, 3, none⟩ (.string ((rd_T81 l0_1 x8_1).f3))).setCell ⟨gb205, 4, none⟩ (.int .i64 ((rd_T81 l0_1 x8_1).f4))).setCell ⟨gb205, 5, none⟩ (.bool ((rd_T81 l0_1 x8_1).f5))).setCell ⟨gb205, 6, none⟩ (.int .i64 ((rd_T81 l0_1 x8_1).f6))).setCell ⟨gb205, 7, none⟩ (.slice A204_7 ((rd_T81 l0_1 x8_1).f7).length c204_7)).heap[gb203]? = some (.cells #[.int .i64 a0_0, .slice (some ad204) l0_1.length c0_1] 38 (0, 0))) := ⟨by (with_reducible repeat (first | refine blk_drewN ?_ _ | refine blk_drew ?_ | refine blk_alloc ?_ _)); refine blk_far ?_ NB203_205.out _; (with_reducible repeat (first | refine blk_drewN ?_ _ | refine blk_drew ?_ | refine blk_alloc ?_ _)); refine blk_far ?_ NB203_205.out _; (with_reducible repeat (first | refine blk_drewN ?_ _ | refine blk_drew ?_ | refine blk_alloc ?_ _)); refine blk_far ?_ NB203_205.out _; (with_reducible repeat (first | refine blk_drewN ?_ _ | refine blk_drew ?_ | refine blk_alloc ?_ _)); refine blk_far ?_ NB203_205.out _; (with_reducible repeat (first | refine blk_drewN ?_ _ | refine blk_drew ?_ | refine blk_alloc ?_ _)); refine blk_far ?_ NB203_205.out _; (with_reducible repeat (first | refine blk_drewN ?_ _ | refine blk_drew ?_ | refine blk_alloc ?_ _)); refine blk_far ?_ NB203_205.out _; (with_reducible repeat (first | refine blk_drewN ?_ _ | refine blk_drew ?_ | refine blk_alloc ?_ _)); refine blk_far ?_ NB203_205.out _; (with_reducible repeat (first | refine blk_drewN ?_ _ | refine blk_drew ?_ | refine blk_alloc ?_ _)); refine blk_far ?_ NB203_205.out _; (with_reducible repeat (first | refine blk_drewN ?_ _ | refine blk_drew ?_ | refine blk_alloc ?_ _)); exact BK203.out⟩
 have n1_ : Aside0 (((((((((w40.setCell ⟨gb205, 0, none⟩ (.int .i64 ((rd_T81 l0_1 x8_1).f0))).setCell ⟨gb205, 1, none⟩ (.int .i64 ((rd_T81 l0_1 x8_1).f1))).setCell ⟨gb205, 2, none⟩ (.int .i64 ((rd_T81 l0_1 x8_1).f2))).setCell ⟨gb205, 3, none⟩ (.string ((rd_T81 l0_1 x8_1).f3))).setCell ⟨gb205, 4, none⟩ (.int .i64 ((rd_T81 l0_1 x8_1).f4))).setCell ⟨gb205, 5, none⟩ (.bool ((rd_T81 l0_1 x8_1).f5))).setCell ⟨gb205, 6, none⟩ (.int .i64 ((rd_T81 l0_1 x8_1).f6))).setCell ⟨gb205, 7, none⟩ (.slice A204_7 ((rd_T81 l0_1 x8_1).f7).length c204_7)).heap[gb205]? = some (.cells #[.int .i64 ((rd_T81 l0_1 x8_1).f0), .int .i64 ((rd_T81 l0_1 x8_1).f1), .int .i64 ((rd_T81 l0_1 x8_1).f2), .string ((rd_T81 l0_1 x8_1).f3), .int .i64 ((rd_T81 l0_1 x8_1).f4), .bool ((rd_T81 l0_1 x8_1).f5), .int .i64 ((rd_T81 l0_1 x8_1).f6), .slice A204_7 ((rd_T81 l0_1 x8_1).f7).length c204_7] 81 (0, 0))) := ⟨by (with_reducible repeat (first | refine blk_drewN ?_ _ | refine blk_drew ?_ | refine blk_alloc ?_ _)); refine blk_put (cs := #[.int .i64 ((rd_T81 l0_1 x8_1).f0), .int .i64 ((rd_T81 l0_1 x8_1).f1), .int .i64 ((rd_T81 l0_1 x8_1).f2), .string ((rd_T81 l0_1 x8_1).f3), .int .i64 ((rd_T81 l0_1 x8_1).f4), .bool ((rd_T81 l0_1 x8_1).f5), .int .i64 ((rd_T81 l0_1 x8_1).f6), .slice none 0 0]) ?_ 7 _ rfl; (with_reducible repeat (first | refine blk_drewN ?_ _ | refine blk_drew ?_ | refine blk_alloc ?_ _)); refine blk_put (cs := #[.int .i64 ((rd_T81 l0_1 x8_1).f0), .int .i64 ((rd_T81 l0_1 x8_1).f1), .int .i64 ((rd_T81 l0_1 x8_1).f2), .string ((rd_T81 l0_1 x8_1).f3), .int .i64 ((rd_T81 l0_1 x8_1).f4), .bool ((rd_T81 l0_1 x8_1).f5), .int .i64 0, .slice none 0 0]) ?_ 6 _ rfl; (with_reducible repeat (first | refine blk_drewN ?_ _ | refine blk_drew ?_ | refine blk_alloc ?_ _)); refine blk_put (cs := #[.int .i64 ((rd_T81 l0_1 x8_1).f0), .int .i64 ((rd_T81 l0_1 x8_1).f1), .int .i64 ((rd_T81 l0_1 x8_1).f2), .string ((rd_T81 l0_1 x8_1).f3), .int .i64 ((rd_T81 l0_1 x8_1).f4), .bool false, .int .i64 0, .slice none 0 0]) ?_ 5 _ rfl; (with_reducible repeat (first | refine blk_drewN ?_ _ | refine blk_drew ?_ | refine blk_alloc ?_ _)); refine blk_put (cs := #[.int .i64 ((rd_T81 l0_1 x8_1).f0), .int .i64 ((rd_T81 l0_1 x8_1).f1), .int .i64 ((rd_T81 l0_1 x8_1).f2), .string ((rd_T81 l0_1 x8_1).f3), .int .i64 0, .bool false, .int .i64 0, .slice none 0 0]) ?_ 4 _ rfl; (with_reducible repeat (first | refine blk_drewN ?_ _ | refine blk_drew ?_ | refine blk_alloc ?_ _)); refine blk_put (cs := #[.int .i64 ((rd_T81 l0_1 x8_1).f0), .int .i64 ((rd_T81 l0_1 x8_1).f1), .int .i64 ((rd_T81 l0_1 x8_1).f2), .string (⟨#[]⟩ : ByteArray), .int .i64 0, .bool false, .int .i64 0, .slice none 0 0]) ?_ 3 _ rfl; (with_reducible repeat (first | refine blk_drewN ?_ _ | refine blk_drew ?_ | refine blk_alloc ?_ _)); refine blk_put (cs := #[.int .i64 ((rd_T81 l0_1 x8_1).f0), .int .i64 ((rd_T81 l0_1 x8_1).f1), .int .i64 0, .string (⟨#[]⟩ : ByteArray), .int .i64 0, .bool false, .int .i64 0, .slice none 0 0]) ?_ 2 _ rfl; (with_reducible repeat (first | refine blk_drewN ?_ _ | refine blk_drew ?_ | refine blk_alloc ?_ _)); refine blk_put (cs := #[.int .i64 ((rd_T81 l0_1 x8_1).f0), .int .i64 0, .int .i64 0, .string (⟨#[]⟩ : ByteArray), .int .i64 0, .bool false, .int .i64 0, .slice none 0 0]) ?_ 1 _ rfl; (with_reducible repeat (first | refine blk_drewN ?_ _ | refine blk_drew ?_ | refine blk_alloc ?_ _)); refine blk_put (cs := #[.int .i64 0, .int .i64 0, .int .i64 0, .string (⟨#[]⟩ : ByteArray), .int .i64 0, .bool false, .int .i64 0, .slice none 0 0]) ?_ 0 _ rfl; (with_reducible repeat (first | refine blk_drewN ?_ _ | refine blk_drew ?_ | refine blk_alloc ?_ _)); exact BK205.out⟩
 have n2_ : Aside0 (Below w.heap.size w ((((((((w40.setCell ⟨gb205, 0, none⟩ (.int .i64 ((rd_T81 l0_1 x8_1).f0))).setCell ⟨gb205, 1, none⟩ (.int .i64 ((rd_T81 l0_1 x8_1).f1))).setCell ⟨gb205, 2, none⟩ (.int .i64 ((rd_T81 l0_1 x8_1).f2))).setCell ⟨gb205, 3, none⟩ (.string ((rd_T81 l0_1 x8_1).f3))).setCell ⟨gb205, 4, none⟩ (.int .i64 ((rd_T81 l0_1 x8_1).f4))).setCell ⟨gb205, 5, none⟩ (.bool ((rd_T81 l0_1 x8_1).f5))).setCell ⟨gb205, 6, none⟩ (.int .i64 ((rd_T81 l0_1 x8_1).f6))).setCell ⟨gb205, 7, none⟩ (.slice A204_7 ((rd_T81 l0_1 x8_1).f7).length c204_7))) := ⟨by repeat (first | (with_reducible first | exact HB.out | apply below_alloc | apply pw_below_drewN | apply below_drew1 | refine below_set ?_ GE203.out | refine below_set ?_ GE205.out) | exact HB.out)⟩
 (try clear BK203)
 (try clear BK205)
 (try clear HB)
 generalize ((((((((w40.setCell ⟨gb205, 0, none⟩ (.int .i64 ((rd_T81 l0_1 x8_1).f0))).setCell ⟨gb205, 1, none⟩ (.int .i64 ((rd_T81 l0_1 x8_1).f1))).setCell ⟨gb205, 2, none⟩ (.int .i64 ((rd_T81 l0_1 x8_1).f2))).setCell ⟨gb205, 3, none⟩ (.string ((rd_T81 l0_1 x8_1).f3))).setCell ⟨gb205, 4, none⟩ (.int .i64 ((rd_T81 l0_1 x8_1).f4))).setCell ⟨gb205, 5, none⟩ (.bool ((rd_T81 l0_1 x8_1).f5))).setCell ⟨gb205, 6, none⟩ (.int .i64 ((rd_T81 l0_1 x8_1).f6))).setCell ⟨gb205, 7, none⟩ (.slice A204_7 ((rd_T81 l0_1 x8_1).f7).length c204_7)) = w43 at n0_ n1_ n2_ ⊢
 have BK203 := n0_
 have BK205 := n1_
 have HB := n2_
 clear n0_ n1_ n2_
 have n0_ := Aside0.mk (blk_drew BK203.out)
 have n1_ := Aside0.mk (blk_drew BK205.out)
 have n2_ := Aside0.mk (below_drew1 HB.out)
 clear BK203
 clear BK205
 clear HB
 have BK203 := n0_
 have BK205 := n1_
 have HB := n2_
 clear n0_ n1_ n2_
 refine start_ (n := 38) (S := fun w' => w'.cell? ⟨gb205, 0, none⟩ = some (.int .i64 ((rd_T81 l0_1 x8_1).f0)) ∧ w'.cell? ⟨gb205, 1, none⟩ = some (.int .i64 ((rd_T81 l0_1 x8_1).f1)) ∧ w'.cell? ⟨gb205, 2, none⟩ = some (.int .i64 ((rd_T81 l0_1 x8_1).f2)) ∧ w'.cell? ⟨gb205, 3, none⟩ = some (.string ((rd_T81 l0_1 x8_1).f3)) ∧ w'.cell? ⟨gb205, 4, none⟩ = some (.int .i64 ((rd_T81 l0_1 x8_1).f4)) ∧ w'.cell? ⟨gb205, 5, none⟩ = some (.bool ((rd_T81 l0_1 x8_1).f5)) ∧ w'.cell? ⟨gb205, 6, none⟩ = some (.int .i64 ((rd_T81 l0_1 x8_1).f6)) ∧ w'.cell? ⟨gb205, 7, none⟩ = some (.slice A204_7 ((rd_T81 l0_1 x8_1).f7).length c204_7) ∧ w'.cell? ⟨gb203, 0, none⟩ = some (.int .i64 a0_0) ∧ w'.cell? ⟨gb203, 1, none⟩ = some (.slice (some ad204) l0_1.length c0_1)) (ds := []) m0_ s2_ rfl rfl ⟨(blk_cell BK205.out 0).trans rfl, (blk_cell BK205.out 1).trans rfl, (blk_cell BK205.out 2).trans rfl, (blk_cell BK205.out 3).trans rfl, (blk_cell BK205.out 4).trans rfl, (blk_cell BK205.out 5).trans rfl, (blk_cell BK205.out 6).trans rfl, (blk_cell BK205.out 7).trans rfl, (blk_cell BK203.out 0).trans rfl, (blk_cell BK203.out 1).trans rfl⟩ (fun hHeld => ?_); refine with_tabW impl_ValidLog.tab4 impl_ValidLog.bits4 (fun HT_ HW_ => ?_)
 generalize w43.drew = w44 at BK203 BK205 HB hHeld ⊢
 refine take_ (i := 0) (N := some 13) (v := ?_) (a' := ?_) m1_ rfl rfl (take_ofW HT_.out HW_.out s2_) (fun _ _ _ h => h) (Or.inl ⟨by rfl, ?_⟩) hHeld ?_ ?_
 rotate_left
 {
 rintro w' ⟨s0, s1, s2, s3, s4, s5, s6, s7, s8, s9⟩
 go_simp
 with_reducible rfl}
 rotate_left
 · exact p1_
 refine one_ (i := 1) (N := some 14) m2_ rfl rfl (one_of HT_.out s2_) (by decide) (fun K hK => ?_)
 refine goes_ Try.func59 s2_ rfl #[.agg #[.int .i64 ((rd_T81 l0_1 x8_1).f0), .int .i64 ((rd_T81 l0_1 x8_1).f1), .int .i64 ((rd_T81 l0_1 x8_1).f2), .string ((rd_T81 l0_1 x8_1).f3), .int .i64 ((rd_T81 l0_1 x8_1).f4), .bool ((rd_T81 l0_1 x8_1).f5), .int .i64 ((rd_T81 l0_1 x8_1).f6), .slice A204_7 ((rd_T81 l0_1 x8_1).f7).length c204_7]] (by rfl) rfl rfl s3_ ?_
 with_reducible refine (impl_ValidMessage.calls k1 ((rd_T81 l0_1 x8_1).f0) ((rd_T81 l0_1 x8_1).f1) ((rd_T81 l0_1 x8_1).f2) ((rd_T81 l0_1 x8_1).f3) ((rd_T81 l0_1 x8_1).f4) ((rd_T81 l0_1 x8_1).f5) ((rd_T81 l0_1 x8_1).f6) _ _ ((rd_T81 l0_1 x8_1).f7) true _ ?side1 ?side2 A7.out).mono ?_
 (case side1 => repeat (first | exact (Kd.C_below HR204_7.out HB.out) | (with_reducible refine Kd.C_alloc ?_ _) | (with_reducible refine Kd.C_drewN ?_ _) | (with_reducible refine Kd.C_drew ?_)))
 (case side2 => exact HC204_7.out)
 rintro e w45 ⟨rfl, hb⟩
 refine ⟨_, rfl, ?_⟩
 have n0_ := Aside0.mk (blk_below (g := gb203) (o := .cells #[.int .i64 a0_0, .slice (some ad204) l0_1.length c0_1] 38 (0, 0)) (b1_ BK203.out) hb)
 have n1_ := Aside0.mk (blk_below (g := gb205) (o := .cells #[.int .i64 ((rd_T81 l0_1 x8_1).f0), .int .i64 ((rd_T81 l0_1 x8_1).f1), .int .i64 ((rd_T81 l0_1 x8_1).f2), .string ((rd_T81 l0_1 x8_1).f3), .int .i64 ((rd_T81 l0_1 x8_1).f4), .bool ((rd_T81 l0_1 x8_1).f5), .int .i64 ((rd_T81 l0_1 x8_1).f6), .slice A204_7 ((rd_T81 l0_1 x8_1).f7).length c204_7] 81 (0, 0)) (b1_ BK205.out) hb)
 have n2_ := Aside0.mk (below_step (by repeat (first | (with_reducible first | exact HB.out | apply below_alloc | apply pw_below_drewN | apply below_drew1 | refine below_set ?_ GE203.out | refine below_set ?_ GE205.out) | exact HB.out)) hb)
 clear BK203
 clear BK205
 clear HB
 have BK203 := n0_
 have BK205 := n1_
 have HB := n2_
 clear n0_ n1_ n2_
 (try clear hb)
 (try clear hb2)
 (try clear hk)
 (try clear hi)
 refine hK.out _ _ ⟨(blk_cell BK205.out 0).trans rfl, (blk_cell BK205.out 1).trans rfl, (blk_cell BK205.out 2).trans rfl, (blk_cell BK205.out 3).trans rfl, (blk_cell BK205.out 4).trans rfl, (blk_cell BK205.out 5).trans rfl, (blk_cell BK205.out 6).trans rfl, (blk_cell BK205.out 7).trans rfl, (blk_cell BK203.out 0).trans rfl, (blk_cell BK203.out 1).trans rfl⟩ (fun hHeld => ?_)
 clear hK K
 refine norm_ (a' := ?_) ?_ ?_
 rotate_left
 {
 show Act.put _ (some 14) _ = _
 simp only [Act.put, List.setIfInBounds_toArray, List.set_cons_zero, List.set_cons_succ, i64_w, i32_w]
 rfl}
 refine pu_ 2 15 m3_ (any_of HT_.out s2_) ?_
 refine pu_ 3 16 m4_ (any_of HT_.out s2_) ?_
 refine pu_ 4 17 m5_ (any_of HT_.out s2_) ?_
 refine pu_ 6 19 m6_ (any_of HT_.out s2_) ?_
 refine take_ (i := 5) (N := some 18) (v := ?_) (a' := ?_) m7_ rfl rfl (take_ofW HT_.out HW_.out s2_) (fun _ _ _ h => h) (Or.inl ⟨by rfl, ?_⟩) hHeld ?_ ?_
 rotate_left
 {
 rintro w' ⟨s0, s1, s2, s3, s4, s5, s6, s7, s8, s9⟩
 go_simp
 with_reducible rfl}
 rotate_left
 · exact p1_
 refine take_ (i := 7) (N := some 20) (v := ?_) (a' := ?_) m8_ rfl rfl (take_ofW HT_.out HW_.out s2_) (fun _ _ _ h => h) (Or.inl ⟨by rfl, ?_⟩) hHeld ?_ ?_
 rotate_left
 {
 rintro w' ⟨s0, s1, s2, s3, s4, s5, s6, s7, s8, s9⟩
 go_simp
 with_reducible rfl}
 rotate_left
 · exact p1_
 refine pu_ 8 21 m9_ (any_of HT_.out s2_) ?_
 refine pu_ 9 22 m10_ (any_of HT_.out s2_) ?_
 refine pu_ 10 23 m11_ (any_of HT_.out s2_) ?_
 refine pu_ 11 24 m12_ (any_of HT_.out s2_) ?_
 refine pu_ 12 25 m13_ (any_of HT_.out s2_) ?_
 refine pu_ 13 26 m14_ (any_of HT_.out s2_) ?_
 refine pn_ 14 27 m15_ (any_of HT_.out s2_) ?_
 refine pn_ 15 28 m16_ (any_of HT_.out s2_) ?_
 refine pn_ 16 29 m17_ (any_of HT_.out s2_) ?_
 refine pn_ 17 30 m18_ (any_of HT_.out s2_) ?_
 refine pn_ 18 31 m19_ (any_of HT_.out s2_) ?_
 refine pn_ 19 32 m20_ (any_of HT_.out s2_) ?_
 refine pn_ 20 33 m21_ (any_of HT_.out s2_) ?_
 refine pn_ 21 34 m22_ (any_of HT_.out s2_) ?_
 refine pn_ 22 35 m23_ (any_of HT_.out s2_) ?_
 refine pn_ 23 36 m24_ (any_of HT_.out s2_) ?_
 refine pn_ 24 37 m25_ (any_of HT_.out s2_) ?_
 refine pn_ 25 38 m26_ (any_of HT_.out s2_) ?_
 refine pn_ 26 39 m27_ (any_of HT_.out s2_) ?_
 refine pn_ 27 40 m28_ (any_of HT_.out s2_) ?_
 refine pn_ 28 41 m29_ (any_of HT_.out s2_) ?_
 refine pn_ 29 42 m30_ (any_of HT_.out s2_) ?_
 refine pn_ 30 43 m31_ (any_of HT_.out s2_) ?_
 refine pn_ 31 44 m32_ (any_of HT_.out s2_) ?_
 refine pn_ 32 45 m33_ (any_of HT_.out s2_) ?_
 refine pn_ 33 46 m34_ (any_of HT_.out s2_) ?_
 refine pn_ 34 47 m35_ (any_of HT_.out s2_) ?_
 refine pn_ 35 48 m36_ (any_of HT_.out s2_) ?_
 refine pu_ 36 49 m37_ (any_of HT_.out s2_) ?_
 refine pu_ 37 50 m38_ (any_of HT_.out s2_) ?_
 refine done_ (done_of HT_.out s2_) ?_
 try go_wp2
 go_roundg k1
 case measure => have := HK1.out; omega
 case rel => exact ⟨(wrap64 (x8_1 + 1)), s1_, H', ⟨by have := HK1.out; omega⟩, ⟨b1_ BK203.out⟩, ⟨by repeat (first | (with_reducible first | exact HB.out | apply below_alloc | apply pw_below_drewN | apply below_drew1 | refine below_set ?_ GE203.out | refine below_set ?_ GE205.out) | exact HB.out)⟩⟩}}}
 {
 replace c8 := Bool.eq_false_iff.mpr c8
 subst c8
 have H1 : (some false) = some r := by rw [if_neg (show ¬ (false = true) by decide)] at H; exact H
 clear H
 have H := H1
 clear H1
 obtain rfl := Option.some.inj H
 have p204 : 0 ≤ (x8_1 : Int) := of_decide_eq_true (by first | (with_reducible assumption) | assumption)
 have q204 : x8_1 < (l0_1.length : Int) := of_decide_eq_true (by first | (with_reducible assumption) | assumption)
 obtain ⟨ad204, A204_7, c204_7, e204, hx204_0, hx204_1, hx204_2, hx204_3, hx204_4, hx204_5, hx204_6, hx204_7, hl204_7, hi204_7⟩ := at_T81 HR0_1.out x8_1 p204 q204
 cases e204
 replace hx204_0 := (HB.out.cell (World.block_lt_of_cell? w _ hx204_0)).trans hx204_0
 replace hx204_1 := (HB.out.cell (World.block_lt_of_cell? w _ hx204_1)).trans hx204_1
 replace hx204_2 := (HB.out.cell (World.block_lt_of_cell? w _ hx204_2)).trans hx204_2
 replace hx204_3 := (HB.out.cell (World.block_lt_of_cell? w _ hx204_3)).trans hx204_3
 replace hx204_4 := (HB.out.cell (World.block_lt_of_cell? w _ hx204_4)).trans hx204_4
 replace hx204_5 := (HB.out.cell (World.block_lt_of_cell? w _ hx204_5)).trans hx204_5
 replace hx204_6 := (HB.out.cell (World.block_lt_of_cell? w _ hx204_6)).trans hx204_6
 replace hx204_7 := (HB.out.cell (World.block_lt_of_cell? w _ hx204_7)).trans hx204_7
 have HR204_7 := Aside0.mk hi204_7
 have HC204_7 := Aside0.mk hl204_7
 clear hi204_7 hl204_7
 replace p204 := eq_true p204
 replace q204 := eq_true q204
 try go_wp2_with (first | ((with_reducible refine gate_dst (N := 4) rfl ?_); refine box_event ?hg (N := 4) ?hd (cs := #[.int .i64 0, .int .i64 0, .int .i64 0, .string (⟨#[]⟩ : ByteArray), .int .i64 0, .bool false, .int .i64 0, .slice none 0 0]) (t := 81) ?hr ?_; (case hd => rfl); (case hg => rfl); (case hr => first | (go_simp; done) | (go_simp; rfl)); intro gb205 hg w46 hbox hb; have n0_ := Aside0.mk (blk_below (g := gb203) (o := .cells #[.int .i64 a0_0, .slice (some ad204) l0_1.length c0_1] 38 (0, 0)) (b1_ BK203.out) hb); have n1_ := Aside0.mk (below_step (by repeat (first | (with_reducible first | exact HB.out | apply below_alloc | apply pw_below_drewN | apply below_drew1 | refine below_set ?_ GE203.out) | exact HB.out)) hb); have n2_ := Aside0.mk (hbox); have n3_ := Aside0.mk ((by rw [hg]; exact (below_size (by repeat (first | (with_reducible first | exact HB.out | apply below_alloc | apply pw_below_drewN | apply below_drew1 | refine below_set ?_ GE203.out) | exact HB.out))) : w.heap.size ≤ gb205)); have n4_ := Aside0.mk ((by rw [hg]; exact (below_size (by repeat (first | (with_reducible first | exact HB.out | apply below_alloc | apply pw_below_drewN | apply below_drew1 | refine below_set ?_ GE203.out) | exact HB.out))) : w.heap.size ≤ gb205)); have n5_ := Aside0.mk ((by rw [hg]; exact Nat.ne_of_lt (blk_lt (g := gb203) (o := .cells #[.int .i64 a0_0, .slice (some ad204) l0_1.length c0_1] 38 (0, 0)) (b1_ BK203.out)) : gb203 ≠ gb205)); have n6_ := Aside0.mk ((by rw [hg]; exact Nat.ne_of_gt (blk_lt (g := gb203) (o := .cells #[.int .i64 a0_0, .slice (some ad204) l0_1.length c0_1] 38 (0, 0)) (b1_ BK203.out)) : gb205 ≠ gb203)); clear BK203; clear HB; have BK203 := n0_; have HB := n1_; have BK205 := n2_; have GW205 := n3_; have GE205 := n4_; have NB203_205 := n5_; have NB205_203 := n6_; clear n0_ n1_ n2_ n3_ n4_ n5_ n6_; clear hb hbox hg; have hnb47 := NB205_203.out; have hnc47 := NB203_205.out; have hcz48_0 : w46.cell? ⟨gb205, 0, none⟩ = some (.int .i64 0) := (blk_cell BK205.out 0).trans rfl; have hcz48_1 : w46.cell? ⟨gb205, 1, none⟩ = some (.int .i64 0) := (blk_cell BK205.out 1).trans rfl; have hcz48_2 : w46.cell? ⟨gb205, 2, none⟩ = some (.int .i64 0) := (blk_cell BK205.out 2).trans rfl; have hcz48_3 : w46.cell? ⟨gb205, 3, none⟩ = some (.string (⟨#[]⟩ : ByteArray)) := (blk_cell BK205.out 3).trans rfl; have hcz48_4 : w46.cell? ⟨gb205, 4, none⟩ = some (.int .i64 0) := (blk_cell BK205.out 4).trans rfl; have hcz48_5 : w46.cell? ⟨gb205, 5, none⟩ = some (.bool false) := (blk_cell BK205.out 5).trans rfl; have hcz48_6 : w46.cell? ⟨gb205, 6, none⟩ = some (.int .i64 0) := (blk_cell BK205.out 6).trans rfl; have hcz48_7 : w46.cell? ⟨gb205, 7, none⟩ = some (.slice none 0 0) := (blk_cell BK205.out 7).trans rfl; have hfz48_0 := blk_frozen BK205.out 0; have hfz48_1 := blk_frozen BK205.out 1; have hfz48_2 := blk_frozen BK205.out 2; have hfz48_3 := blk_frozen BK205.out 3; have hfz48_4 := blk_frozen BK205.out 4; have hfz48_5 := blk_frozen BK205.out 5; have hfz48_6 := blk_frozen BK205.out 6; have hfz48_7 := blk_frozen BK205.out 7))
 have n0_ : Aside0 (((((((((w46.setCell ⟨gb205, 0, none⟩ (.int .i64 ((rd_T81 l0_1 x8_1).f0))).setCell ⟨gb205, 1, none⟩ (.int .i64 ((rd_T81 l0_1 x8_1).f1))).setCell ⟨gb205, 2, none⟩ (.int .i64 ((rd_T81 l0_1 x8_1).f2))).setCell ⟨gb205, 3, none⟩ (.string ((rd_T81 l0_1 x8_1).f3))).setCell ⟨gb205, 4, none⟩ (.int .i64 ((rd_T81 l0_1 x8_1).f4))).setCell ⟨gb205, 5, none⟩ (.bool ((rd_T81 l0_1 x8_1).f5))).setCell ⟨gb205, 6, none⟩ (.int .i64 ((rd_T81 l0_1 x8_1).f6))).setCell ⟨gb205, 7, none⟩ (.slice A204_7 ((rd_T81 l0_1 x8_1).f7).length c204_7)).heap[gb203]? = some (.cells #[.int .i64 a0_0, .slice (some ad204) l0_1.length c0_1] 38 (0, 0))) := ⟨by (with_reducible repeat (first | refine blk_drewN ?_ _ | refine blk_drew ?_ | refine blk_alloc ?_ _)); refine blk_far ?_ NB203_205.out _; (with_reducible repeat (first | refine blk_drewN ?_ _ | refine blk_drew ?_ | refine blk_alloc ?_ _)); refine blk_far ?_ NB203_205.out _; (with_reducible repeat (first | refine blk_drewN ?_ _ | refine blk_drew ?_ | refine blk_alloc ?_ _)); refine blk_far ?_ NB203_205.out _; (with_reducible repeat (first | refine blk_drewN ?_ _ | refine blk_drew ?_ | refine blk_alloc ?_ _)); refine blk_far ?_ NB203_205.out _; (with_reducible repeat (first | refine blk_drewN ?_ _ | refine blk_drew ?_ | refine blk_alloc ?_ _)); refine blk_far ?_ NB203_205.out _; (with_reducible repeat (first | refine blk_drewN ?_ _ | refine blk_drew ?_ | refine blk_alloc ?_ _)); refine blk_far ?_ NB203_205.out _; (with_reducible repeat (first | refine blk_drewN ?_ _ | refine blk_drew ?_ | refine blk_alloc ?_ _)); refine blk_far ?_ NB203_205.out _; (with_reducible repeat (first | refine blk_drewN ?_ _ | refine blk_drew ?_ | refine blk_alloc ?_ _)); refine blk_far ?_ NB203_205.out _; (with_reducible repeat (first | refine blk_drewN ?_ _ | refine blk_drew ?_ | refine blk_alloc ?_ _)); exact BK203.out⟩
 have n1_ : Aside0 (((((((((w46.setCell ⟨gb205, 0, none⟩ (.int .i64 ((rd_T81 l0_1 x8_1).f0))).setCell ⟨gb205, 1, none⟩ (.int .i64 ((rd_T81 l0_1 x8_1).f1))).setCell ⟨gb205, 2, none⟩ (.int .i64 ((rd_T81 l0_1 x8_1).f2))).setCell ⟨gb205, 3, none⟩ (.string ((rd_T81 l0_1 x8_1).f3))).setCell ⟨gb205, 4, none⟩ (.int .i64 ((rd_T81 l0_1 x8_1).f4))).setCell ⟨gb205, 5, none⟩ (.bool ((rd_T81 l0_1 x8_1).f5))).setCell ⟨gb205, 6, none⟩ (.int .i64 ((rd_T81 l0_1 x8_1).f6))).setCell ⟨gb205, 7, none⟩ (.slice A204_7 ((rd_T81 l0_1 x8_1).f7).length c204_7)).heap[gb205]? = some (.cells #[.int .i64 ((rd_T81 l0_1 x8_1).f0), .int .i64 ((rd_T81 l0_1 x8_1).f1), .int .i64 ((rd_T81 l0_1 x8_1).f2), .string ((rd_T81 l0_1 x8_1).f3), .int .i64 ((rd_T81 l0_1 x8_1).f4), .bool ((rd_T81 l0_1 x8_1).f5), .int .i64 ((rd_T81 l0_1 x8_1).f6), .slice A204_7 ((rd_T81 l0_1 x8_1).f7).length c204_7] 81 (0, 0))) := ⟨by (with_reducible repeat (first | refine blk_drewN ?_ _ | refine blk_drew ?_ | refine blk_alloc ?_ _)); refine blk_put (cs := #[.int .i64 ((rd_T81 l0_1 x8_1).f0), .int .i64 ((rd_T81 l0_1 x8_1).f1), .int .i64 ((rd_T81 l0_1 x8_1).f2), .string ((rd_T81 l0_1 x8_1).f3), .int .i64 ((rd_T81 l0_1 x8_1).f4), .bool ((rd_T81 l0_1 x8_1).f5), .int .i64 ((rd_T81 l0_1 x8_1).f6), .slice none 0 0]) ?_ 7 _ rfl; (with_reducible repeat (first | refine blk_drewN ?_ _ | refine blk_drew ?_ | refine blk_alloc ?_ _)); refine blk_put (cs := #[.int .i64 ((rd_T81 l0_1 x8_1).f0), .int .i64 ((rd_T81 l0_1 x8_1).f1), .int .i64 ((rd_T81 l0_1 x8_1).f2), .string ((rd_T81 l0_1 x8_1).f3), .int .i64 ((rd_T81 l0_1 x8_1).f4), .bool ((rd_T81 l0_1 x8_1).f5), .int .i64 0, .slice none 0 0]) ?_ 6 _ rfl; (with_reducible repeat (first | refine blk_drewN ?_ _ | refine blk_drew ?_ | refine blk_alloc ?_ _)); refine blk_put (cs := #[.int .i64 ((rd_T81 l0_1 x8_1).f0), .int .i64 ((rd_T81 l0_1 x8_1).f1), .int .i64 ((rd_T81 l0_1 x8_1).f2), .string ((rd_T81 l0_1 x8_1).f3), .int .i64 ((rd_T81 l0_1 x8_1).f4), .bool false, .int .i64 0, .slice none 0 0]) ?_ 5 _ rfl; (with_reducible repeat (first | refine blk_drewN ?_ _ | refine blk_drew ?_ | refine blk_alloc ?_ _)); refine blk_put (cs := #[.int .i64 ((rd_T81 l0_1 x8_1).f0), .int .i64 ((rd_T81 l0_1 x8_1).f1), .int .i64 ((rd_T81 l0_1 x8_1).f2), .string ((rd_T81 l0_1 x8_1).f3), .int .i64 0, .bool false, .int .i64 0, .slice none 0 0]) ?_ 4 _ rfl; (with_reducible repeat (first | refine blk_drewN ?_ _ | refine blk_drew ?_ | refine blk_alloc ?_ _)); refine blk_put (cs := #[.int .i64 ((rd_T81 l0_1 x8_1).f0), .int .i64 ((rd_T81 l0_1 x8_1).f1), .int .i64 ((rd_T81 l0_1 x8_1).f2), .string (⟨#[]⟩ : ByteArray), .int .i64 0, .bool false, .int .i64 0, .slice none 0 0]) ?_ 3 _ rfl; (with_reducible repeat (first | refine blk_drewN ?_ _ | refine blk_drew ?_ | refine blk_alloc ?_ _)); refine blk_put (cs := #[.int .i64 ((rd_T81 l0_1 x8_1).f0), .int .i64 ((rd_T81 l0_1 x8_1).f1), .int .i64 0, .string (⟨#[]⟩ : ByteArray), .int .i64 0, .bool false, .int .i64 0, .slice none 0 0]) ?_ 2 _ rfl; (with_reducible repeat (first | refine blk_drewN ?_ _ | refine blk_drew ?_ | refine blk_alloc ?_ _)); refine blk_put (cs := #[.int .i64 ((rd_T81 l0_1 x8_1).f0), .int .i64 0, .int .i64 0, .string (⟨#[]⟩ : ByteArray), .int .i64 0, .bool false, .int .i64 0, .slice none 0 0]) ?_ 1 _ rfl; (with_reducible repeat (first | refine blk_drewN ?_ _ | refine blk_drew ?_ | refine blk_alloc ?_ _)); refine blk_put (cs := #[.int .i64 0, .int .i64 0, .int .i64 0, .string (⟨#[]⟩ : ByteArray), .int .i64 0, .bool false, .int .i64 0, .slice none 0 0]) ?_ 0 _ rfl; (with_reducible repeat (first | refine blk_drewN ?_ _ | refine blk_drew ?_ | refine blk_alloc ?_ _)); exact BK205.out⟩
 have n2_ : Aside0 (Below w.heap.size w ((((((((w46.setCell ⟨gb205, 0, none⟩ (.int .i64 ((rd_T81 l0_1 x8_1).f0))).setCell ⟨gb205, 1, none⟩ (.int .i64 ((rd_T81 l0_1 x8_1).f1))).setCell ⟨gb205, 2, none⟩ (.int .i64 ((rd_T81 l0_1 x8_1).f2))).setCell ⟨gb205, 3, none⟩ (.string ((rd_T81 l0_1 x8_1).f3))).setCell ⟨gb205, 4, none⟩ (.int .i64 ((rd_T81 l0_1 x8_1).f4))).setCell ⟨gb205, 5, none⟩ (.bool ((rd_T81 l0_1 x8_1).f5))).setCell ⟨gb205, 6, none⟩ (.int .i64 ((rd_T81 l0_1 x8_1).f6))).setCell ⟨gb205, 7, none⟩ (.slice A204_7 ((rd_T81 l0_1 x8_1).f7).length c204_7))) := ⟨by repeat (first | (with_reducible first | exact HB.out | apply below_alloc | apply pw_below_drewN | apply below_drew1 | refine below_set ?_ GE203.out | refine below_set ?_ GE205.out) | exact HB.out)⟩
 (try clear BK203)
 (try clear BK205)
 (try clear HB)
 generalize ((((((((w46.setCell ⟨gb205, 0, none⟩ (.int .i64 ((rd_T81 l0_1 x8_1).f0))).setCell ⟨gb205, 1, none⟩ (.int .i64 ((rd_T81 l0_1 x8_1).f1))).setCell ⟨gb205, 2, none⟩ (.int .i64 ((rd_T81 l0_1 x8_1).f2))).setCell ⟨gb205, 3, none⟩ (.string ((rd_T81 l0_1 x8_1).f3))).setCell ⟨gb205, 4, none⟩ (.int .i64 ((rd_T81 l0_1 x8_1).f4))).setCell ⟨gb205, 5, none⟩ (.bool ((rd_T81 l0_1 x8_1).f5))).setCell ⟨gb205, 6, none⟩ (.int .i64 ((rd_T81 l0_1 x8_1).f6))).setCell ⟨gb205, 7, none⟩ (.slice A204_7 ((rd_T81 l0_1 x8_1).f7).length c204_7)) = w49 at n0_ n1_ n2_ ⊢
 have BK203 := n0_
 have BK205 := n1_
 have HB := n2_
 clear n0_ n1_ n2_
 have n0_ := Aside0.mk (blk_drew BK203.out)
 have n1_ := Aside0.mk (blk_drew BK205.out)
 have n2_ := Aside0.mk (below_drew1 HB.out)
 clear BK203
 clear BK205
 clear HB
 have BK203 := n0_
 have BK205 := n1_
 have HB := n2_
 clear n0_ n1_ n2_
 refine start_ (n := 38) (S := fun w' => w'.cell? ⟨gb205, 0, none⟩ = some (.int .i64 ((rd_T81 l0_1 x8_1).f0)) ∧ w'.cell? ⟨gb205, 1, none⟩ = some (.int .i64 ((rd_T81 l0_1 x8_1).f1)) ∧ w'.cell? ⟨gb205, 2, none⟩ = some (.int .i64 ((rd_T81 l0_1 x8_1).f2)) ∧ w'.cell? ⟨gb205, 3, none⟩ = some (.string ((rd_T81 l0_1 x8_1).f3)) ∧ w'.cell? ⟨gb205, 4, none⟩ = some (.int .i64 ((rd_T81 l0_1 x8_1).f4)) ∧ w'.cell? ⟨gb205, 5, none⟩ = some (.bool ((rd_T81 l0_1 x8_1).f5)) ∧ w'.cell? ⟨gb205, 6, none⟩ = some (.int .i64 ((rd_T81 l0_1 x8_1).f6)) ∧ w'.cell? ⟨gb205, 7, none⟩ = some (.slice A204_7 ((rd_T81 l0_1 x8_1).f7).length c204_7)) (ds := []) m0_ s2_ rfl rfl ⟨(blk_cell BK205.out 0).trans rfl, (blk_cell BK205.out 1).trans rfl, (blk_cell BK205.out 2).trans rfl, (blk_cell BK205.out 3).trans rfl, (blk_cell BK205.out 4).trans rfl, (blk_cell BK205.out 5).trans rfl, (blk_cell BK205.out 6).trans rfl, (blk_cell BK205.out 7).trans rfl⟩ (fun hHeld => ?_); refine with_tabW impl_ValidLog.tab4 impl_ValidLog.bits4 (fun HT_ HW_ => ?_)
 generalize w49.drew = w50 at BK203 BK205 HB hHeld ⊢
 refine take_ (i := 0) (N := some 13) (v := ?_) (a' := ?_) m1_ rfl rfl (take_ofW HT_.out HW_.out s2_) (fun _ _ _ h => h) (Or.inl ⟨by rfl, ?_⟩) hHeld ?_ ?_
 rotate_left
 {
 rintro w' ⟨s0, s1, s2, s3, s4, s5, s6, s7⟩
 go_simp
 with_reducible rfl}
 rotate_left
 · exact p1_
 refine one_ (i := 1) (N := some 14) m2_ rfl rfl (one_of HT_.out s2_) (by decide) (fun K hK => ?_)
 refine goes_ Try.func59 s2_ rfl #[.agg #[.int .i64 ((rd_T81 l0_1 x8_1).f0), .int .i64 ((rd_T81 l0_1 x8_1).f1), .int .i64 ((rd_T81 l0_1 x8_1).f2), .string ((rd_T81 l0_1 x8_1).f3), .int .i64 ((rd_T81 l0_1 x8_1).f4), .bool ((rd_T81 l0_1 x8_1).f5), .int .i64 ((rd_T81 l0_1 x8_1).f6), .slice A204_7 ((rd_T81 l0_1 x8_1).f7).length c204_7]] (by rfl) rfl rfl s3_ ?_
 with_reducible refine (impl_ValidMessage.calls k1 ((rd_T81 l0_1 x8_1).f0) ((rd_T81 l0_1 x8_1).f1) ((rd_T81 l0_1 x8_1).f2) ((rd_T81 l0_1 x8_1).f3) ((rd_T81 l0_1 x8_1).f4) ((rd_T81 l0_1 x8_1).f5) ((rd_T81 l0_1 x8_1).f6) _ _ ((rd_T81 l0_1 x8_1).f7) false _ ?side1 ?side2 A7.out).mono ?_
 (case side1 => repeat (first | exact (Kd.C_below HR204_7.out HB.out) | (with_reducible refine Kd.C_alloc ?_ _) | (with_reducible refine Kd.C_drewN ?_ _) | (with_reducible refine Kd.C_drew ?_)))
 (case side2 => exact HC204_7.out)
 rintro e w51 ⟨rfl, hb⟩
 refine ⟨_, rfl, ?_⟩
 have n0_ := Aside0.mk (blk_below (g := gb203) (o := .cells #[.int .i64 a0_0, .slice (some ad204) l0_1.length c0_1] 38 (0, 0)) (b1_ BK203.out) hb)
 have n1_ := Aside0.mk (blk_below (g := gb205) (o := .cells #[.int .i64 ((rd_T81 l0_1 x8_1).f0), .int .i64 ((rd_T81 l0_1 x8_1).f1), .int .i64 ((rd_T81 l0_1 x8_1).f2), .string ((rd_T81 l0_1 x8_1).f3), .int .i64 ((rd_T81 l0_1 x8_1).f4), .bool ((rd_T81 l0_1 x8_1).f5), .int .i64 ((rd_T81 l0_1 x8_1).f6), .slice A204_7 ((rd_T81 l0_1 x8_1).f7).length c204_7] 81 (0, 0)) (b1_ BK205.out) hb)
 have n2_ := Aside0.mk (below_step (by repeat (first | (with_reducible first | exact HB.out | apply below_alloc | apply pw_below_drewN | apply below_drew1 | refine below_set ?_ GE203.out | refine below_set ?_ GE205.out) | exact HB.out)) hb)
 clear BK203
 clear BK205
 clear HB
 have BK203 := n0_
 have BK205 := n1_
 have HB := n2_
 clear n0_ n1_ n2_
 (try clear hb)
 (try clear hb2)
 (try clear hk)
 (try clear hi)
 refine hK.out _ _ ⟨(blk_cell BK205.out 0).trans rfl, (blk_cell BK205.out 1).trans rfl, (blk_cell BK205.out 2).trans rfl, (blk_cell BK205.out 3).trans rfl, (blk_cell BK205.out 4).trans rfl, (blk_cell BK205.out 5).trans rfl, (blk_cell BK205.out 6).trans rfl, (blk_cell BK205.out 7).trans rfl⟩ (fun hHeld => ?_)
 clear hK K
 refine norm_ (a' := ?_) ?_ ?_
 rotate_left
 {
 show Act.put _ (some 14) _ = _
 simp only [Act.put, List.setIfInBounds_toArray, List.set_cons_zero, List.set_cons_succ, i64_w, i32_w]
 rfl}
 refine pu_ 2 15 m3_ (any_of HT_.out s2_) ?_
 refine pu_ 3 16 m4_ (any_of HT_.out s2_) ?_
 refine pn_ 4 17 m5_ (any_of HT_.out s2_) ?_
 refine pn_ 5 18 #[T,T,T,T,T,T,F,F,F,F,F,F,F,F,F,F,F,F,F,F,F,F,F,F,F,F,F,F,F,F,F,F,F,F,F,F,F,F] (any_of HT_.out s2_) ?_
 refine pn_ 6 19 m7_ (any_of HT_.out s2_) ?_
 refine pn_ 7 20 m8_ (any_of HT_.out s2_) ?_
 refine pn_ 8 21 m9_ (any_of HT_.out s2_) ?_
 refine pu_ 9 22 m10_ (any_of HT_.out s2_) ?_
 refine pu_ 10 23 m11_ (any_of HT_.out s2_) ?_
 refine pn_ 11 24 m12_ (any_of HT_.out s2_) ?_
 refine pn_ 12 25 m13_ (any_of HT_.out s2_) ?_
 refine pn_ 13 26 m14_ (any_of HT_.out s2_) ?_
 refine pn_ 14 27 m15_ (any_of HT_.out s2_) ?_
 refine pn_ 15 28 m16_ (any_of HT_.out s2_) ?_
 refine pn_ 16 29 m17_ (any_of HT_.out s2_) ?_
 refine pn_ 17 30 m18_ (any_of HT_.out s2_) ?_
 refine pn_ 18 31 m19_ (any_of HT_.out s2_) ?_
 refine pn_ 19 32 m20_ (any_of HT_.out s2_) ?_
 refine pn_ 20 33 m21_ (any_of HT_.out s2_) ?_
 refine pn_ 21 34 m22_ (any_of HT_.out s2_) ?_
 refine pn_ 22 35 m23_ (any_of HT_.out s2_) ?_
 refine pn_ 23 36 m24_ (any_of HT_.out s2_) ?_
 refine pn_ 24 37 m25_ (any_of HT_.out s2_) ?_
 refine pn_ 25 38 m26_ (any_of HT_.out s2_) ?_
 refine pn_ 26 39 m27_ (any_of HT_.out s2_) ?_
 refine pn_ 27 40 m28_ (any_of HT_.out s2_) ?_
 refine pn_ 28 41 m29_ (any_of HT_.out s2_) ?_
 refine pn_ 29 42 m30_ (any_of HT_.out s2_) ?_
 refine pn_ 30 43 m31_ (any_of HT_.out s2_) ?_
 refine pn_ 31 44 m32_ (any_of HT_.out s2_) ?_
 refine pn_ 32 45 m33_ (any_of HT_.out s2_) ?_
 refine pn_ 33 46 m34_ (any_of HT_.out s2_) ?_
 refine pn_ 34 47 m35_ (any_of HT_.out s2_) ?_
 refine pn_ 35 48 m36_ (any_of HT_.out s2_) ?_
 refine pn_ 36 49 m37_ (any_of HT_.out s2_) ?_
 refine pu_ 37 50 m38_ (any_of HT_.out s2_) ?_
 refine done_ (done_of HT_.out s2_) ?_
 try go_wp2
 go_ret
 exact ⟨by first | rfl | (simp [errW_none, errW_some] <;> rfl) | (simp [*, errW_none, errW_some] <;> rfl), by repeat (first | (with_reducible first | exact HB.out | apply below_alloc | apply pw_below_drewN | apply below_drew1 | refine below_set ?_ GE203.out | refine below_set ?_ GE205.out) | exact HB.out)⟩}}
 {
 rw [if_neg c6] at H
 exact absurd H (by simp)}}
 {
 rw [if_neg c5] at H
 exact absurd H (by simp)}}
 {
 rw [if_neg c4] at H
 have c4b0 : decide (x8_1 < (l0_1.length : Int)) = false := decide_eq_false c4
 clear c4
 by_cases c52 : (l0_1.length : Int) ≤ 40
 {
 rw [if_pos c52] at H
 have c52b0 : decide ((l0_1.length : Int) ≤ 40) = true := decide_eq_true c52
 have c52b1 : decide (l0_1.length ≤ 40) = true := decide_eq_true (by omega)
 clear c52
 replace H := Option.bind_eq_some_iff.mp H
 obtain ⟨t209, A530, H⟩ := H
 replace H : (some t209) = some r := H
 have A53 := Aside0.mk A530
 clear A530
 obtain rfl := Option.some.inj H
 have hcz54_0 : wr.cell? ⟨gb203, 0, none⟩ = some (.int .i64 a0_0) := (blk_cell BK203.out 0).trans rfl
 have hcz54_1 : wr.cell? ⟨gb203, 1, none⟩ = some (.slice A0_1 l0_1.length c0_1) := (blk_cell BK203.out 1).trans rfl
 have hfz54_0 := blk_frozen BK203.out 0
 have hfz54_1 := blk_frozen BK203.out 1
 go_wp2_with (first | (go_at_call 29; (with_reducible refine (impl_in.calls a0_0 1 1000000000 t209 _ A53.out).mono ?_); rintro e w' ⟨rfl, ⟨nd, rfl⟩⟩))
 go_ret
 exact ⟨by first | rfl | (simp [errW_none, errW_some] <;> rfl) | (simp [*, errW_none, errW_some] <;> rfl), by repeat (first | (with_reducible first | exact HB.out | apply below_alloc | apply pw_below_drewN | apply below_drew1 | refine below_set ?_ GE203.out) | exact HB.out)⟩}
 {
 rw [if_neg c52] at H
 have c52b0 : decide ((l0_1.length : Int) ≤ 40) = false := decide_eq_false c52
 have c52b1 : decide (l0_1.length ≤ 40) = false := decide_eq_false (by omega)
 clear c52
 obtain rfl := Option.some.inj H
 have hcz55_0 : wr.cell? ⟨gb203, 0, none⟩ = some (.int .i64 a0_0) := (blk_cell BK203.out 0).trans rfl
 have hcz55_1 : wr.cell? ⟨gb203, 1, none⟩ = some (.slice A0_1 l0_1.length c0_1) := (blk_cell BK203.out 1).trans rfl
 have hfz55_0 := blk_frozen BK203.out 0
 have hfz55_1 := blk_frozen BK203.out 1
 go_wp2
 go_ret
 exact ⟨by first | rfl | (simp [errW_none, errW_some] <;> rfl) | (simp [*, errW_none, errW_some] <;> rfl), by repeat (first | (with_reducible first | exact HB.out | apply below_alloc | apply pw_below_drewN | apply below_drew1 | refine below_set ?_ GE203.out) | exact HB.out)⟩}}}}

end Go.Proofs.Ytgmbgpjebpgpkaa.QFnExactRootOf
