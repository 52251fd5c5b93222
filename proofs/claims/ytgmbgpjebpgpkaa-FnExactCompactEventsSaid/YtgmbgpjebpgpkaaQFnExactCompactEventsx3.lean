-- written by a program of this session, on the lines of the kit's print
import Derived.Test.YtgmbgpjebpgpkaaQFnExactCompactEventsx0
import Derived.Test.YtgmbgpjebpgpkaaQFnExactCompactEventsx2
namespace Go.Proofs.Ytgmbgpjebpgpkaa.QFnExactCompactEvents
open Go.RowKit Go.Proofs.YtgmbgpjebpgpkaaW.PrintWords Go.Proofs.YtgmbgpjebpgpkaaW.PrintLast Go.Proofs.YtgmbgpjebpgpkaaW.PrintMore
attribute [local go_sem] max2_int min2_int max_two min_two max_three min_three max_four min_four   -- for this text's walks alone
set_option linter.unusedVariables false
set_option linter.unusedSimpArgs false

/-! ### spec_l07Needed: function 61 -/
abbrev spec_l07Needed.T : Bool := true
abbrev spec_l07Needed.F : Bool := false
theorem spec_l07Needed.s1_ {P : Prop} (h : P := by first | rfl | (simp; done) | (simp [*]; done)) : P := h
theorem spec_l07Needed.s2_ {P : Prop} (h : P := by kernel_rfl) : P := h
theorem spec_l07Needed.s3_ {P : Prop} (h : P := by (try simp only [List.map_toArray, List.map_cons, List.map_nil]); first | done | rfl | (simp only [List.length_drop, List.length_take]; rfl)) : P := h
abbrev spec_l07Needed.m0_ : Array Bool := #[F,F,F,F,F,F,F,F]
abbrev spec_l07Needed.m1_ : Array Bool := #[T,F,F,F,F,F,F,F]
abbrev spec_l07Needed.m2_ : Array Bool := #[T,T,F,F,F,F,F,F]
abbrev spec_l07Needed.m3_ : Array Bool := #[T,T,T,F,F,F,F,F]
abbrev spec_l07Needed.m4_ : Array Bool := #[T,T,T,T,F,F,F,F]
abbrev spec_l07Needed.m5_ : Array Bool := #[T,T,T,T,T,F,F,F]
abbrev spec_l07Needed.m6_ : Array Bool := #[T,T,T,T,T,T,F,F]
abbrev spec_l07Needed.m7_ : Array Bool := #[T,T,T,T,T,T,T,F]
abbrev spec_l07Needed.m8_ : Array Bool := #[T,T,T,T,T,T,T,T]
abbrev spec_l07Needed.m9_ : Array Bool := #[F,F,F,F,F,F,F,F,F,F,F,F,F,F,F,F,F,F,F,F,F,F,F,F,F,F,F,F,F,F,F,F,F,F,F]
abbrev spec_l07Needed.m10_ : Array Bool := #[T,F,F,F,F,F,F,F,F,F,F,F,F,F,F,F,F,F,F,F,F,F,F,F,F,F,F,F,F,F,F,F,F,F,F]
abbrev spec_l07Needed.m11_ : Array Bool := #[T,T,F,F,F,F,F,F,F,F,F,F,F,F,F,F,F,F,F,F,F,F,F,F,F,F,F,F,F,F,F,F,F,F,F]
abbrev spec_l07Needed.m12_ : Array Bool := #[T,T,T,F,F,F,F,F,F,F,F,F,F,F,F,F,F,F,F,F,F,F,F,F,F,F,F,F,F,F,F,F,F,F,F]
abbrev spec_l07Needed.m13_ : Array Bool := #[T,T,T,T,F,F,F,F,F,F,F,F,F,F,F,F,F,F,F,F,F,F,F,F,F,F,F,F,F,F,F,F,F,F,F]
abbrev spec_l07Needed.m14_ : Array Bool := #[T,T,T,T,T,F,F,F,F,F,F,F,F,F,F,F,F,F,F,F,F,F,F,F,F,F,F,F,F,F,F,F,F,F,F]
abbrev spec_l07Needed.m15_ : Array Bool := #[T,T,T,T,T,T,F,F,F,F,F,F,F,F,F,F,F,F,F,F,F,F,F,F,F,F,F,F,F,F,F,F,F,F,F]
abbrev spec_l07Needed.m16_ : Array Bool := #[T,T,T,T,T,T,F,T,F,F,F,F,F,F,F,F,F,F,F,F,F,F,F,F,F,F,F,F,F,F,F,F,F,F,F]
abbrev spec_l07Needed.m17_ : Array Bool := #[T,T,T,T,T,T,F,T,T,F,F,F,F,F,F,F,F,F,F,F,F,F,F,F,F,F,F,F,F,F,F,F,F,F,F]
abbrev spec_l07Needed.m18_ : Array Bool := #[T,T,T,T,T,T,F,T,T,T,F,F,F,F,F,F,F,F,F,F,F,F,F,F,F,F,F,F,F,F,F,F,F,F,F]
abbrev spec_l07Needed.m19_ : Array Bool := #[T,T,T,T,T,T,T,T,T,T,F,F,F,F,F,F,F,F,F,F,F,F,F,F,F,F,F,F,F,F,F,F,F,F,F]
abbrev spec_l07Needed.m20_ : Array Bool := #[T,T,T,T,T,T,T,T,T,T,T,F,F,F,F,F,F,F,F,F,F,F,F,F,F,F,F,F,F,F,F,F,F,F,F]
abbrev spec_l07Needed.m21_ : Array Bool := #[T,T,T,T,T,T,T,T,T,T,T,T,F,F,F,F,F,F,F,F,F,F,F,F,F,F,F,F,F,F,F,F,F,F,F]
abbrev spec_l07Needed.m22_ : Array Bool := #[T,T,T,T,T,T,T,T,T,T,T,T,T,F,F,F,F,F,F,F,F,F,F,F,F,F,F,F,F,F,F,F,F,F,F]
abbrev spec_l07Needed.m23_ : Array Bool := #[T,T,T,T,T,T,T,T,T,T,T,T,T,T,F,F,F,F,F,F,F,F,F,F,F,F,F,F,F,F,F,F,F,F,F]
abbrev spec_l07Needed.m24_ : Array Bool := #[T,T,T,T,T,T,T,T,T,T,T,T,T,T,T,F,F,F,F,F,F,F,F,F,F,F,F,F,F,F,F,F,F,F,F]
abbrev spec_l07Needed.m25_ : Array Bool := #[T,T,T,T,T,T,T,T,T,T,T,T,T,T,T,T,F,F,F,F,F,F,F,F,F,F,F,F,F,F,F,F,F,F,F]
abbrev spec_l07Needed.m26_ : Array Bool := #[T,T,T,T,T,T,T,T,T,T,T,T,T,T,T,T,T,F,F,F,F,F,F,F,F,F,F,F,F,F,F,F,F,F,F]
abbrev spec_l07Needed.m27_ : Array Bool := #[T,T,T,T,T,T,T,T,T,T,T,T,T,T,T,T,T,F,T,F,F,F,F,F,F,F,F,F,F,F,F,F,F,F,F]
abbrev spec_l07Needed.m28_ : Array Bool := #[T,T,T,T,T,T,T,T,T,T,T,T,T,T,T,T,T,F,T,T,F,F,F,F,F,F,F,F,F,F,F,F,F,F,F]
abbrev spec_l07Needed.m29_ : Array Bool := #[T,T,T,T,T,T,T,T,T,T,T,T,T,T,T,T,T,F,T,T,T,F,F,F,F,F,F,F,F,F,F,F,F,F,F]
abbrev spec_l07Needed.m30_ : Array Bool := #[T,T,T,T,T,T,T,T,T,T,T,T,T,T,T,T,T,T,T,T,T,F,F,F,F,F,F,F,F,F,F,F,F,F,F]
abbrev spec_l07Needed.m31_ : Array Bool := #[T,T,T,T,T,T,T,T,T,T,T,T,T,T,T,T,T,T,T,T,T,T,F,F,F,F,F,F,F,F,F,F,F,F,F]
abbrev spec_l07Needed.m32_ : Array Bool := #[T,T,T,T,T,T,T,T,T,T,T,T,T,T,T,T,T,T,T,T,T,T,T,F,F,F,F,F,F,F,F,F,F,F,F]
abbrev spec_l07Needed.m33_ : Array Bool := #[T,T,T,T,T,T,T,T,T,T,T,T,T,T,T,T,T,T,T,T,T,T,T,T,F,F,F,F,F,F,F,F,F,F,F]
abbrev spec_l07Needed.m34_ : Array Bool := #[T,T,T,T,T,T,T,T,T,T,T,T,T,T,T,T,T,T,T,T,T,T,T,T,T,F,F,F,F,F,F,F,F,F,F]
abbrev spec_l07Needed.m35_ : Array Bool := #[T,T,T,T,T,T,T,T,T,T,T,T,T,T,T,T,T,T,T,T,T,T,T,T,T,T,F,F,F,F,F,F,F,F,F]
abbrev spec_l07Needed.m36_ : Array Bool := #[T,T,T,T,T,T,T,T,T,T,T,T,T,T,T,T,T,T,T,T,T,T,T,T,T,T,T,F,F,F,F,F,F,F,F]
abbrev spec_l07Needed.m37_ : Array Bool := #[T,T,T,T,T,T,T,T,T,T,T,T,T,T,T,T,T,T,T,T,T,T,T,T,T,T,T,T,F,F,F,F,F,F,F]
abbrev spec_l07Needed.m38_ : Array Bool := #[T,T,T,T,T,T,T,T,T,T,T,T,T,T,T,T,T,T,T,T,T,T,T,T,T,T,T,T,T,F,F,F,F,F,F]
abbrev spec_l07Needed.m39_ : Array Bool := #[T,T,T,T,T,T,T,T,T,T,T,T,T,T,T,T,T,T,T,T,T,T,T,T,T,T,T,T,T,T,F,F,F,F,F]
abbrev spec_l07Needed.m40_ : Array Bool := #[T,T,T,T,T,T,T,T,T,T,T,T,T,T,T,T,T,T,T,T,T,T,T,T,T,T,T,T,T,T,T,F,F,F,F]
abbrev spec_l07Needed.m41_ : Array Bool := #[T,T,T,T,T,T,T,T,T,T,T,T,T,T,T,T,T,T,T,T,T,T,T,T,T,T,T,T,T,T,T,T,F,F,F]
abbrev spec_l07Needed.m42_ : Array Bool := #[T,T,T,T,T,T,T,T,T,T,T,T,T,T,T,T,T,T,T,T,T,T,T,T,T,T,T,T,T,T,T,T,T,F,F]
abbrev spec_l07Needed.m43_ : Array Bool := #[T,T,T,T,T,T,T,T,T,T,T,T,T,T,T,T,T,T,T,T,T,T,T,T,T,T,T,T,T,T,T,T,T,T,F]
abbrev spec_l07Needed.m44_ : Array Bool := #[T,T,T,T,T,T,T,T,T,T,T,T,T,T,T,T,T,T,T,T,T,T,T,T,T,T,T,T,T,T,T,T,T,T,T]
abbrev spec_l07Needed.m45_ : Array Bool := #[T,T,T,T,T,T,T,T,T,T,T,T,T,T,T,T,T,T,F,F,F,F,F,F,F,F,F,F,F,F,F,F,F,F,F]
abbrev spec_l07Needed.m46_ : Array Bool := #[T,T,T,T,T,T,T,T,T,T,T,T,T,T,T,T,T,T,T,F,F,F,F,F,F,F,F,F,F,F,F,F,F,F,F]
abbrev spec_l07Needed.m47_ : Array Bool := #[T,T,T,T,T,T,T,T,T,T,T,T,T,T,T,T,T,T,T,T,F,F,F,F,F,F,F,F,F,F,F,F,F,F,F]
theorem spec_l07Needed.p1_ {P : Prop} (h : P := by simp only [Act.put, List.setIfInBounds_toArray, List.set_cons_zero, List.set_cons_succ, i64_w, i32_w]; rfl) : P := h
theorem spec_l07Needed.pu_ {P : Program} {md : Region.Mode} {ops : Array Oper} {Q : Exit → Act → World → Prop} {S : World → Prop} {ds : List Nat} {fuel : Nat} {l : Array Bool} {a : Act} {w : World} {oi : Oper} {a' : Act} {v : Value} (i N : Nat) (l' : Array Bool) (hc : anyB md ops l l' i = true) (h : wpAnyLast P md ops Q S ds fuel l' a' w) (hi : ops[i]? = some oi := by rfl) (hN : oi.dst = some N := by rfl) (hQ : ∀ c a w, Q (.panic c) (a.put oi.dst v) w → Q (.panic c) a w := by exact fun _ _ _ h => h) (hy : Yields P ops oi v a := by exact Or.inl ⟨by rfl, by intro w'; go_simp; with_reducible rfl⟩) (ha : a.put (some N) v = a' := by simp only [Act.put, List.setIfInBounds_toArray, List.set_cons_zero, List.set_cons_succ, i64_w, i32_w]; rfl) : wpAnyLast P md ops Q S ds (fuel + 1) l a w := pure_ l' hi hN hc hQ hy ha h
theorem spec_l07Needed.pn_ {P : Program} {md : Region.Mode} {ops : Array Oper} {Q : Exit → Act → World → Prop} {S : World → Prop} {ds : List Nat} {fuel : Nat} {l : Array Bool} {a : Act} {w : World} {oi : Oper} {a' : Act} (i N : Nat) (l' : Array Bool) (hc : anyB md ops l l' i = true) (h : wpAnyLast P md ops Q S ds fuel l' a' w) (hi : ops[i]? = some oi := by rfl) (hN : oi.dst = some N := by rfl) (hQ : ∀ c a w, Q (.panic c) (a.put oi.dst undef) w → Q (.panic c) a w := by exact fun _ _ _ h => h) (hy : Yields P ops oi undef a := by exact Or.inr ⟨by rfl, rfl⟩) (ha : a.put (some N) undef = a' := by simp only [Act.put, List.setIfInBounds_toArray, List.set_cons_zero, List.set_cons_succ, i64_w, i32_w]; rfl) : wpAnyLast P md ops Q S ds (fuel + 1) l a w := pure_ l' hi hN hc hQ hy ha h
def spec_l07Needed.l0 : Nat → List (S26) → Int → Int → Int → Int → Int → Option (Bool)
  | 0, _, _, _, _, _, _ => none
  | k + 1, x0, x1, x6, x7, x26, x27 => if x27 < x26 then (if 0 ≤ x27 then (if x27 < (x0.length : Int) then ((spec_l07Opinion_v1.f x0 x27).bind fun t136 => (if t136 = true then (if ((rd_T26 x0 x27).f1) = ((rd_T26 x0 x1).f1) then (if ((rd_T26 x0 x27).f2) = ((rd_T26 x0 x1).f2) then (if x27 ≤ (x0.length : Int) then ((spec_l07Gone.f k (x0.drop (x27 : Int).toNat) ((rd_T26 x0 x1).f1)).bind fun t143 => (if t143 = true then (spec_l07Needed.l0 k x0 x1 x6 x7 x26 (wrap64 (x27 + 1))) else (spec_l07Needed.l0 k x0 x1 (wrap64 (x6 + 1)) x27 x26 (wrap64 (x27 + 1))))) else (none)) else (spec_l07Needed.l0 k x0 x1 x6 x7 x26 (wrap64 (x27 + 1)))) else (spec_l07Needed.l0 k x0 x1 x6 x7 x26 (wrap64 (x27 + 1)))) else (spec_l07Needed.l0 k x0 x1 x6 x7 x26 (wrap64 (x27 + 1))))) else (none)) else (none)) else (if (Int.tmod x6 2) = 1 then (some (x7 == x1)) else (some false))
def spec_l07Needed.f (k : Nat) (l0 : List (S26)) (a1 : Int) : Option (Bool) := if 0 ≤ a1 then (if a1 < (l0.length : Int) then ((spec_l07Opinion_v1.f l0 a1).bind fun t128 => (if t128 = true then (if a1 ≤ (l0.length : Int) then ((spec_l07Gone.f k (l0.drop (a1 : Int).toNat) ((rd_T26 l0 a1).f1)).bind fun t134 => (if t134 = true then (some false) else (spec_l07Needed.l0 k l0 a1 0 a1 (l0.length : Int) 0))) else (none)) else (some true))) else (none)) else (none)
theorem spec_l07Needed.mono_l : ∀ k, (∀ y0 y1 y2 y3 y4 y5, LeO (spec_l07Needed.l0 k y0 y1 y2 y3 y4 y5) (spec_l07Needed.l0 (k + 1) y0 y1 y2 y3 y4 y5))
  | 0 => fun _ _ _ _ _ _ r h => by simp [spec_l07Needed.l0] at h
  | k + 1 => by
    have ih0 := spec_l07Needed.mono_l k
    · intro y0 y1 y2 y3 y4 y5
      unfold spec_l07Needed.l0
      repeat' first
      | (with_reducible exact ih0 _ _ _ _ _ _)
      | (with_reducible exact spec_l07Gone.mono _ _ _)
      | (with_reducible exact LeO.refl _)
      | (with_reducible exact LeO.none _)
      | (with_reducible refine LeO.ite ?_ ?_)
      | (with_reducible refine LeO.bind ?_ (fun _ => ?_))
      | exact ih0 _ _ _ _ _ _
      | exact spec_l07Gone.mono _ _ _
      | exact LeO.none _
      | refine LeO.ite ?_ ?_
      | refine LeO.bind ?_ (fun _ => ?_)
theorem spec_l07Needed.mono : ∀ a0 a1 k, LeO (spec_l07Needed.f k a0 a1) (spec_l07Needed.f (k + 1) a0 a1) := by
  intro a0 a1 k
  have ih0 := spec_l07Needed.mono_l k
  unfold spec_l07Needed.f
  repeat' first
      | (with_reducible exact ih0 _ _ _ _ _ _)
      | (with_reducible exact spec_l07Gone.mono _ _ _)
      | (with_reducible exact LeO.refl _)
      | (with_reducible exact LeO.none _)
      | (with_reducible refine LeO.ite ?_ ?_)
      | (with_reducible refine LeO.bind ?_ (fun _ => ?_))
      | exact ih0 _ _ _ _ _ _
      | exact spec_l07Gone.mono _ _ _
      | exact LeO.none _
      | refine LeO.ite ?_ ?_
      | refine LeO.bind ?_ (fun _ => ?_)
def spec_l07Needed.T4 : Bool × List (List Nat × List Nat) := (true, [([], []), ([], []), ([0, 1], [0, 1]), ([], []), ([3], [3]), ([4], [4]), ([5], [5]), ([2, 6], [2, 6])])
def spec_l07Needed.B4 : List Nat := [0, 0, 3, 0, 8, 24, 56, 127]
theorem spec_l07Needed.tab4 : rtab .any (opsOf Try.f61 4) = spec_l07Needed.T4 := by kernel_rfl
theorem spec_l07Needed.bits4 : waitsOk spec_l07Needed.T4.2 spec_l07Needed.B4 = true := by kernel_rfl
def spec_l07Needed.T12 : Bool × List (List Nat × List Nat) := (true, [([], []), ([0], [0]), ([1, 1], [1]), ([2], [2]), ([3, 2], [2, 3]), ([4, 2], [2, 4]), ([5, 2], [2, 5]), ([2], [2]), ([7, 2], [2, 7]), ([8, 2], [2, 8]), ([9, 2], [2, 9]), ([6, 10, 2], [2, 6, 10]), ([2, 11], [2, 11]), ([12, 2], [12]), ([13], [13]), ([14, 13], [13, 14]), ([15, 13], [13, 15]), ([16, 13], [13, 16]), ([13], [13]), ([18, 13], [13, 18]), ([19, 13], [13, 19]), ([20, 13], [13, 20]), ([17, 21, 13], [13, 17, 21]), ([13, 22], [13, 22]), ([23, 13], [23]), ([24], [24]), ([24], [24]), ([25, 26, 24], [24, 25, 26]), ([24], [24]), ([28, 24], [24, 28]), ([29, 24], [24, 29]), ([30, 24], [24, 30]), ([27, 31, 24, 24], [24, 27, 31]), ([32, 24], [24, 32]), ([24, 33], [24, 33])])
def spec_l07Needed.B12 : List Nat := [0, 1, 3, 7, 15, 31, 63, 7, 135, 391, 903, 2047, 4095, 8191, 16383, 32767, 65535, 131071, 16383, 278527, 802815, 1851391, 4194303, 8388607, 16777215, 33554431, 33554431, 134217727, 33554431, 301989887, 838860799, 1912602623, 4294967295, 8589934591, 17179869183]
theorem spec_l07Needed.tab12 : rtab .any (opsOf Try.f61 12) = spec_l07Needed.T12 := by kernel_rfl
theorem spec_l07Needed.bits12 : waitsOk spec_l07Needed.T12.2 spec_l07Needed.B12 = true := by kernel_rfl
set_option maxHeartbeats 8000000 in
set_option maxRecDepth 100000 in
theorem spec_l07Needed.calls (k : Nat) (A0 : Option Addr) (c0 : Nat) (l0 : List (S26)) (a1 : Int) (r : Bool) (w : World) (hr0 : Kd.C k26 w A0 l0.length l0) (hc0 : l0.length ≤ c0) (h : spec_l07Needed.f k l0 a1 = some r) :
    Calls Try.prog 61 #[.slice A0 l0.length c0, .int .i64 a1] w fun e w' => e = .returned (.bool r) ∧ Below w.heap.size w w' := by
 have HR0 := Aside0.mk hr0
 have HC0 := Aside0.mk hc0
 clear hr0 hc0
 have HB := Aside0.mk (Below.refl w.heap.size w)
 have H : (if 0 ≤ a1 then (if a1 < (l0.length : Int) then ((spec_l07Opinion_v1.f l0 a1).bind fun t128 => (if t128 = true then (if a1 ≤ (l0.length : Int) then ((spec_l07Gone.f k (l0.drop (a1 : Int).toNat) ((rd_T26 l0 a1).f1)).bind fun t134 => (if t134 = true then (some false) else (spec_l07Needed.l0 k l0 a1 0 a1 (l0.length : Int) 0))) else (none)) else (some true))) else (none)) else (none)) = some r := h
 clear h
 by_cases c3 : 0 ≤ a1
 {
 rw [if_pos c3] at H
 have c3b0 : decide (0 ≤ a1) = true := decide_eq_true c3
 clear c3
 by_cases c4 : a1 < (l0.length : Int)
 {
 rw [if_pos c4] at H
 have c4b0 : decide (a1 < (l0.length : Int)) = true := decide_eq_true c4
 clear c4
 replace H := Option.bind_eq_some_iff.mp H
 obtain ⟨t128, A50, H⟩ := H
 replace H : (if t128 = true then (if a1 ≤ (l0.length : Int) then ((spec_l07Gone.f k (l0.drop (a1 : Int).toNat) ((rd_T26 l0 a1).f1)).bind fun t134 => (if t134 = true then (some false) else (spec_l07Needed.l0 k l0 a1 0 a1 (l0.length : Int) 0))) else (none)) else (some true)) = some r := H
 have A5 := Aside0.mk A50
 clear A50
 by_cases c6 : t128 = true
 {
 subst c6
 have H1 : (if a1 ≤ (l0.length : Int) then ((spec_l07Gone.f k (l0.drop (a1 : Int).toNat) ((rd_T26 l0 a1).f1)).bind fun t134 => (if t134 = true then (some false) else (spec_l07Needed.l0 k l0 a1 0 a1 (l0.length : Int) 0))) else (none)) = some r := by rw [if_pos rfl] at H; exact H
 clear H
 have H := H1
 clear H1
 have c7b0 := eq_true (of_decide_eq_true (by first | (with_reducible assumption) | assumption) : 0 ≤ a1)
 by_cases c8 : a1 ≤ (l0.length : Int)
 {
 rw [if_pos c8] at H
 have c8b0 := eq_true c8
 have c8b1 : decide (a1 ≤ (l0.length : Int)) = true := decide_eq_true c8
 clear c8
 obtain ⟨y129, hy129⟩ : ∃ y_ : List (S26), y_ = (l0.drop (a1 : Int).toNat) := ⟨_, rfl⟩
 replace H : ((spec_l07Gone.f k y129 ((rd_T26 l0 a1).f1)).bind fun t134 => (if t134 = true then (some false) else (spec_l07Needed.l0 k l0 a1 0 a1 (l0.length : Int) 0))) = some r := by first | (rw [hy129]; with_reducible exact H) | (have H2_ := (Option.bind_some _ _).symm.trans H; rw [hy129]; with_reducible exact H2_) | (have H2_ := (Option.bind_some _ _).symm.trans H; with_reducible exact H2_) | with_reducible exact H | (rw [hy129]; exact H) | exact H
 have Ny129 := Aside0.mk hy129
 clear hy129
 replace H := Option.bind_eq_some_iff.mp H
 obtain ⟨t134, A90, H⟩ := H
 replace H : (if t134 = true then (some false) else (spec_l07Needed.l0 k l0 a1 0 a1 (l0.length : Int) 0)) = some r := H
 have A9 := Aside0.mk A90
 clear A90
 by_cases c10 : t134 = true
 {
 subst c10
 have H1 : (some false) = some r := by rw [if_pos rfl] at H; exact H
 clear H
 have H := H1
 clear H1
 obtain rfl := Option.some.inj H
 have p127 : 0 ≤ (a1 : Int) := of_decide_eq_true (by first | (with_reducible assumption) | assumption)
 have q127 : a1 < (l0.length : Int) := of_decide_eq_true (by first | (with_reducible assumption) | assumption)
 have hbd127 := Aside0.mk (And.intro p127 q127)
 obtain ⟨ad127, e127, hx127_0, hx127_1, hx127_2, hx127_3, hx127_4, hx127_5⟩ := at_T26 HR0.out a1 p127 q127
 cases e127
 replace p127 := eq_true p127
 replace q127 := eq_true q127
 go_enter Try.func61, Try.ntmps61
 try go_wp2_with (first | ((with_reducible refine gate_callee (f := 77) rfl ?_); refine goesL_ (some 14) rfl rfl Try.func77 s2_ rfl #[.pointer (some (ad127.add ((a1).toNat * 6)))] rfl s3_ ?_; (with_reducible refine (spec_l07Opinion_v1.calls ad127 c0 l0 a1 true _ ?side1 ?side2 A5.out).mono ?_); (case side1 => repeat (first | exact HR0.out | (with_reducible refine Kd.C_alloc ?_ _) | (with_reducible refine Kd.C_drewN ?_ _) | (with_reducible refine Kd.C_drew ?_))); (case side2 => exact HC0.out); rintro e w11 ⟨rfl, hb⟩; refine ⟨_, rfl, ?_⟩; have n0_ := Aside0.mk (below_step (by repeat (first | (with_reducible first | exact HB.out | apply below_alloc | apply pw_below_drewN | apply below_drew1) | exact HB.out)) hb); clear HB; have HB := n0_; clear n0_; (try clear hb); (try clear hb2); (try clear hk); (try clear hi)))
 have n0_ := Aside0.mk (below_drew1 HB.out)
 clear HB
 have HB := n0_
 clear n0_
 have q13 : (a1 : Int) ≤ ((l0.length : Int) : Int) := of_decide_eq_true (by first | (with_reducible assumption) | assumption)
 obtain ⟨i013, hi013, _, hsz13, _⟩ := info_parts info26
 have hroom13 : l0.length ≤ c0 := HC0.out
 have hC13 : Kd.C k26 _ (some ad127) l0.length l0 := HR0.out
 have q013 : (0 : Int) ≤ (a1 : Int) := of_decide_eq_true (by first | (with_reducible assumption) | assumption)
 have hcut13 := cut_from (P := Try.prog) 44 26 .i64 Try.underlying44 hi013 6 hsz13 (some ad127) l0.length c0 a1 q013 q13
 have hr13 := Kd.C_drop (m := (a1 : Int).toNat) (c := c0) hC13 (by omega) hroom13
 obtain ⟨A13, hA13⟩ : ∃ A1, A1 = (if c0 = (a1 : Int).toNat then (some ad127) else ((some ad127) : Option Addr).map (·.add ((a1 : Int).toNat * 6))) := ⟨_, rfl⟩
 obtain ⟨c13, hc13⟩ : ∃ c1, c1 = c0 - (a1 : Int).toNat := ⟨_, rfl⟩
 have hy13 : y129.length = l0.length - (a1 : Int).toNat := (by rw [Ny129.out, List.length_drop] <;> omega)
 rw [show (l0).drop (a1 : Int).toNat = y129 from Ny129.out.symm] at hr13
 replace hr13 : Kd.C k26 _ A13 y129.length y129 := (by rw [hA13]; exact hr13)
 rw [← hy13, ← hA13, ← hc13] at hcut13
 have HR132 := Aside0.mk hr13
 have HC132 := Aside0.mk (show y129.length ≤ c13 from by rw [hy13, hc13]; exact Nat.sub_le_sub_right hroom13 _)
 clear hr13 hC13 hroom13 hi013 hsz13 hc13
 have KY13 := Aside0.mk hy13
 have KA13 := Aside0.mk hA13
 clear hy13 hA13
 replace q13 := eq_true q13
 have p133 : 0 ≤ (a1 : Int) := of_decide_eq_true (by first | (with_reducible assumption) | assumption)
 have q133 : a1 < (l0.length : Int) := of_decide_eq_true (by first | (with_reducible assumption) | assumption)
 obtain ⟨ad133, e133, hx133_0, hx133_1, hx133_2, hx133_3, hx133_4, hx133_5⟩ := at_T26 HR0.out a1 p133 q133
 have hw133_5 := hx133_5
 have hw133_4 := hx133_4
 have hw133_3 := hx133_3
 have hw133_2 := hx133_2
 have hw133_1 := hx133_1
 have hw133_0 := hx133_0
 obtain rfl : ad127 = ad133 := (by injection e133)
 replace hx133_0 := (HB.out.cell (World.block_lt_of_cell? w _ hx133_0)).trans hx133_0
 replace hx133_1 := (HB.out.cell (World.block_lt_of_cell? w _ hx133_1)).trans hx133_1
 replace hx133_2 := (HB.out.cell (World.block_lt_of_cell? w _ hx133_2)).trans hx133_2
 replace hx133_3 := (HB.out.cell (World.block_lt_of_cell? w _ hx133_3)).trans hx133_3
 replace hx133_4 := (HB.out.cell (World.block_lt_of_cell? w _ hx133_4)).trans hx133_4
 replace hx133_5 := (HB.out.cell (World.block_lt_of_cell? w _ hx133_5)).trans hx133_5
 replace p133 := eq_true p133
 replace q133 := eq_true q133
 refine start_ (n := 8) (S := fun w' => w'.cell? (ad127.add ((a1).toNat * 6)) = some (.int .i64 ((rd_T26 l0 a1).f0)) ∧ w'.cell? ⟨(ad127.add ((a1).toNat * 6)).block, (ad127.add ((a1).toNat * 6)).off + 1, none⟩ = some (.int .i64 ((rd_T26 l0 a1).f1)) ∧ w'.cell? ⟨(ad127.add ((a1).toNat * 6)).block, (ad127.add ((a1).toNat * 6)).off + 2, none⟩ = some (.int .i64 ((rd_T26 l0 a1).f2)) ∧ w'.cell? ⟨(ad127.add ((a1).toNat * 6)).block, (ad127.add ((a1).toNat * 6)).off + 3, none⟩ = some (.int .i64 ((rd_T26 l0 a1).f3)) ∧ w'.cell? ⟨(ad127.add ((a1).toNat * 6)).block, (ad127.add ((a1).toNat * 6)).off + 4, none⟩ = some (.string ((rd_T26 l0 a1).f4)) ∧ w'.cell? ⟨(ad127.add ((a1).toNat * 6)).block, (ad127.add ((a1).toNat * 6)).off + 5, none⟩ = some (.int .i64 ((rd_T26 l0 a1).f5))) (ds := []) m0_ s2_ rfl rfl ⟨((HB.out.cell (World.block_lt_of_cell? w _ hw133_0)).trans hw133_0), ((HB.out.cell (World.block_lt_of_cell? w _ hw133_1)).trans hw133_1), ((HB.out.cell (World.block_lt_of_cell? w _ hw133_2)).trans hw133_2), ((HB.out.cell (World.block_lt_of_cell? w _ hw133_3)).trans hw133_3), ((HB.out.cell (World.block_lt_of_cell? w _ hw133_4)).trans hw133_4), ((HB.out.cell (World.block_lt_of_cell? w _ hw133_5)).trans hw133_5)⟩ (fun hHeld => ?_); refine with_tabW spec_l07Needed.tab4 spec_l07Needed.bits4 (fun HT_ HW_ => ?_)
 generalize w11.drew = w12 at HB HR132 hx133_0 hx133_1 hx133_2 hx133_3 hx133_4 hx133_5 hHeld ⊢
 refine pu_ 0 16 m1_ (any_of HT_.out s2_) ?_
 refine pu_ 1 17 m2_ (any_of HT_.out s2_) ?_
 refine pu_ 2 18 m3_ (any_of HT_.out s2_) ?_
 refine pu_ 3 19 m4_ (any_of HT_.out s2_) ?_
 refine pu_ 4 20 m5_ (any_of HT_.out s2_) ?_
 refine pu_ 5 21 m6_ (any_of HT_.out s2_) ?_
 refine take_ (i := 6) (N := some 22) (v := ?_) (a' := ?_) m7_ rfl rfl (take_ofW HT_.out HW_.out s2_) (fun _ _ _ h => h) (Or.inl ⟨by rfl, ?_⟩) hHeld ?_ ?_
 rotate_left
 {
 rintro w' ⟨s0, s1, s2, s3, s4, s5⟩
 go_simp
 with_reducible rfl}
 rotate_left
 · exact p1_
 refine one_ (i := 7) (N := some 23) m8_ rfl rfl (one_of HT_.out s2_) (by decide) (fun K hK => ?_)
 refine goes_ Try.func78 s2_ rfl #[.slice A13 y129.length c13, .int .i64 ((rd_T26 l0 a1).f1)] (by rfl) rfl rfl s3_ ?_
 with_reducible refine (spec_l07Gone.calls k _ _ y129 ((rd_T26 l0 a1).f1) true _ ?side1 ?side2 A9.out).mono ?_
 (case side1 => repeat (first | exact (Kd.C_below HR132.out HB.out) | (with_reducible refine Kd.C_alloc ?_ _) | (with_reducible refine Kd.C_drewN ?_ _) | (with_reducible refine Kd.C_drew ?_)))
 (case side2 => exact HC132.out)
 rintro e w' ⟨rfl, ⟨nd, rfl⟩⟩
 refine ⟨_, rfl, ?_⟩
 refine hK.out _ _ ⟨((HB.out.cell (World.block_lt_of_cell? w _ hw133_0)).trans hw133_0), ((HB.out.cell (World.block_lt_of_cell? w _ hw133_1)).trans hw133_1), ((HB.out.cell (World.block_lt_of_cell? w _ hw133_2)).trans hw133_2), ((HB.out.cell (World.block_lt_of_cell? w _ hw133_3)).trans hw133_3), ((HB.out.cell (World.block_lt_of_cell? w _ hw133_4)).trans hw133_4), ((HB.out.cell (World.block_lt_of_cell? w _ hw133_5)).trans hw133_5)⟩ (fun hHeld => ?_)
 clear hK K
 refine norm_ (a' := ?_) ?_ ?_
 rotate_left
 {
 show Act.put _ (some 23) _ = _
 simp only [Act.put, List.setIfInBounds_toArray, List.set_cons_zero, List.set_cons_succ, i64_w, i32_w]
 rfl}
 refine done_ (done_of HT_.out s2_) ?_
 try go_wp2
 go_ret
 exact ⟨by first | rfl | (simp [errW_none, errW_some] <;> rfl) | (simp [*, errW_none, errW_some] <;> rfl), by repeat (first | (with_reducible first | exact HB.out | apply below_alloc | apply pw_below_drewN | apply below_drew1) | exact HB.out)⟩}
 {
 replace c10 := Bool.eq_false_iff.mpr c10
 subst c10
 have H1 : (spec_l07Needed.l0 k l0 a1 0 a1 (l0.length : Int) 0) = some r := by rw [if_neg (show ¬ (false = true) by decide)] at H; exact H
 clear H
 have H := H1
 clear H1
 have H' := Aside0.mk H
 clear H
 have p127 : 0 ≤ (a1 : Int) := of_decide_eq_true (by first | (with_reducible assumption) | assumption)
 have q127 : a1 < (l0.length : Int) := of_decide_eq_true (by first | (with_reducible assumption) | assumption)
 have hbd127 := Aside0.mk (And.intro p127 q127)
 obtain ⟨ad127, e127, hx127_0, hx127_1, hx127_2, hx127_3, hx127_4, hx127_5⟩ := at_T26 HR0.out a1 p127 q127
 cases e127
 replace p127 := eq_true p127
 replace q127 := eq_true q127
 go_enter Try.func61, Try.ntmps61
 try go_wp2_with (first | ((with_reducible refine gate_callee (f := 77) rfl ?_); refine goesL_ (some 14) rfl rfl Try.func77 s2_ rfl #[.pointer (some (ad127.add ((a1).toNat * 6)))] rfl s3_ ?_; (with_reducible refine (spec_l07Opinion_v1.calls ad127 c0 l0 a1 true _ ?side1 ?side2 A5.out).mono ?_); (case side1 => repeat (first | exact HR0.out | (with_reducible refine Kd.C_alloc ?_ _) | (with_reducible refine Kd.C_drewN ?_ _) | (with_reducible refine Kd.C_drew ?_))); (case side2 => exact HC0.out); rintro e w14 ⟨rfl, hb⟩; refine ⟨_, rfl, ?_⟩; have n0_ := Aside0.mk (below_step (by repeat (first | (with_reducible first | exact HB.out | apply below_alloc | apply pw_below_drewN | apply below_drew1) | exact HB.out)) hb); clear HB; have HB := n0_; clear n0_; (try clear hb); (try clear hb2); (try clear hk); (try clear hi)))
 have n0_ := Aside0.mk (below_drew1 HB.out)
 clear HB
 have HB := n0_
 clear n0_
 (try clear hcut13)
 have q16 : (a1 : Int) ≤ ((l0.length : Int) : Int) := of_decide_eq_true (by first | (with_reducible assumption) | assumption)
 obtain ⟨i016, hi016, _, hsz16, _⟩ := info_parts info26
 have hroom16 : l0.length ≤ c0 := HC0.out
 have hC16 : Kd.C k26 _ (some ad127) l0.length l0 := HR0.out
 have q016 : (0 : Int) ≤ (a1 : Int) := of_decide_eq_true (by first | (with_reducible assumption) | assumption)
 have hcut16 := cut_from (P := Try.prog) 44 26 .i64 Try.underlying44 hi016 6 hsz16 (some ad127) l0.length c0 a1 q016 q16
 have hr16 := Kd.C_drop (m := (a1 : Int).toNat) (c := c0) hC16 (by omega) hroom16
 obtain ⟨A16, hA16⟩ : ∃ A1, A1 = (if c0 = (a1 : Int).toNat then (some ad127) else ((some ad127) : Option Addr).map (·.add ((a1 : Int).toNat * 6))) := ⟨_, rfl⟩
 obtain ⟨c16, hc16⟩ : ∃ c1, c1 = c0 - (a1 : Int).toNat := ⟨_, rfl⟩
 have hy16 : y129.length = l0.length - (a1 : Int).toNat := (by rw [Ny129.out, List.length_drop] <;> omega)
 rw [show (l0).drop (a1 : Int).toNat = y129 from Ny129.out.symm] at hr16
 replace hr16 : Kd.C k26 _ A16 y129.length y129 := (by rw [hA16]; exact hr16)
 rw [← hy16, ← hA16, ← hc16] at hcut16
 have HR132 := Aside0.mk hr16
 have HC132 := Aside0.mk (show y129.length ≤ c16 from by rw [hy16, hc16]; exact Nat.sub_le_sub_right hroom16 _)
 clear hr16 hC16 hroom16 hi016 hsz16 hc16
 have KY16 := Aside0.mk hy16
 have KA16 := Aside0.mk hA16
 clear hy16 hA16
 replace q16 := eq_true q16
 have p133 : 0 ≤ (a1 : Int) := of_decide_eq_true (by first | (with_reducible assumption) | assumption)
 have q133 : a1 < (l0.length : Int) := of_decide_eq_true (by first | (with_reducible assumption) | assumption)
 obtain ⟨ad133, e133, hx133_0, hx133_1, hx133_2, hx133_3, hx133_4, hx133_5⟩ := at_T26 HR0.out a1 p133 q133
 have hw133_5 := hx133_5
 have hw133_4 := hx133_4
 have hw133_3 := hx133_3
 have hw133_2 := hx133_2
 have hw133_1 := hx133_1
 have hw133_0 := hx133_0
 obtain rfl : ad127 = ad133 := (by injection e133)
 replace hx133_0 := (HB.out.cell (World.block_lt_of_cell? w _ hx133_0)).trans hx133_0
 replace hx133_1 := (HB.out.cell (World.block_lt_of_cell? w _ hx133_1)).trans hx133_1
 replace hx133_2 := (HB.out.cell (World.block_lt_of_cell? w _ hx133_2)).trans hx133_2
 replace hx133_3 := (HB.out.cell (World.block_lt_of_cell? w _ hx133_3)).trans hx133_3
 replace hx133_4 := (HB.out.cell (World.block_lt_of_cell? w _ hx133_4)).trans hx133_4
 replace hx133_5 := (HB.out.cell (World.block_lt_of_cell? w _ hx133_5)).trans hx133_5
 replace p133 := eq_true p133
 replace q133 := eq_true q133
 refine start_ (n := 8) (S := fun w' => w'.cell? (ad127.add ((a1).toNat * 6)) = some (.int .i64 ((rd_T26 l0 a1).f0)) ∧ w'.cell? ⟨(ad127.add ((a1).toNat * 6)).block, (ad127.add ((a1).toNat * 6)).off + 1, none⟩ = some (.int .i64 ((rd_T26 l0 a1).f1)) ∧ w'.cell? ⟨(ad127.add ((a1).toNat * 6)).block, (ad127.add ((a1).toNat * 6)).off + 2, none⟩ = some (.int .i64 ((rd_T26 l0 a1).f2)) ∧ w'.cell? ⟨(ad127.add ((a1).toNat * 6)).block, (ad127.add ((a1).toNat * 6)).off + 3, none⟩ = some (.int .i64 ((rd_T26 l0 a1).f3)) ∧ w'.cell? ⟨(ad127.add ((a1).toNat * 6)).block, (ad127.add ((a1).toNat * 6)).off + 4, none⟩ = some (.string ((rd_T26 l0 a1).f4)) ∧ w'.cell? ⟨(ad127.add ((a1).toNat * 6)).block, (ad127.add ((a1).toNat * 6)).off + 5, none⟩ = some (.int .i64 ((rd_T26 l0 a1).f5))) (ds := []) m0_ s2_ rfl rfl ⟨((HB.out.cell (World.block_lt_of_cell? w _ hw133_0)).trans hw133_0), ((HB.out.cell (World.block_lt_of_cell? w _ hw133_1)).trans hw133_1), ((HB.out.cell (World.block_lt_of_cell? w _ hw133_2)).trans hw133_2), ((HB.out.cell (World.block_lt_of_cell? w _ hw133_3)).trans hw133_3), ((HB.out.cell (World.block_lt_of_cell? w _ hw133_4)).trans hw133_4), ((HB.out.cell (World.block_lt_of_cell? w _ hw133_5)).trans hw133_5)⟩ (fun hHeld => ?_); refine with_tabW spec_l07Needed.tab4 spec_l07Needed.bits4 (fun HT_ HW_ => ?_)
 generalize w14.drew = w15 at HB HR132 hx133_0 hx133_1 hx133_2 hx133_3 hx133_4 hx133_5 hHeld ⊢
 refine pu_ 0 16 m1_ (any_of HT_.out s2_) ?_
 refine pu_ 1 17 m2_ (any_of HT_.out s2_) ?_
 refine pu_ 2 18 m3_ (any_of HT_.out s2_) ?_
 refine pu_ 3 19 m4_ (any_of HT_.out s2_) ?_
 refine pu_ 4 20 m5_ (any_of HT_.out s2_) ?_
 refine pu_ 5 21 m6_ (any_of HT_.out s2_) ?_
 refine take_ (i := 6) (N := some 22) (v := ?_) (a' := ?_) m7_ rfl rfl (take_ofW HT_.out HW_.out s2_) (fun _ _ _ h => h) (Or.inl ⟨by rfl, ?_⟩) hHeld ?_ ?_
 rotate_left
 {
 rintro w' ⟨s0, s1, s2, s3, s4, s5⟩
 go_simp
 with_reducible rfl}
 rotate_left
 · exact p1_
 refine one_ (i := 7) (N := some 23) m8_ rfl rfl (one_of HT_.out s2_) (by decide) (fun K hK => ?_)
 refine goes_ Try.func78 s2_ rfl #[.slice A16 y129.length c16, .int .i64 ((rd_T26 l0 a1).f1)] (by rfl) rfl rfl s3_ ?_
 with_reducible refine (spec_l07Gone.calls k _ _ y129 ((rd_T26 l0 a1).f1) false _ ?side1 ?side2 A9.out).mono ?_
 (case side1 => repeat (first | exact (Kd.C_below HR132.out HB.out) | (with_reducible refine Kd.C_alloc ?_ _) | (with_reducible refine Kd.C_drewN ?_ _) | (with_reducible refine Kd.C_drew ?_)))
 (case side2 => exact HC132.out)
 rintro e w' ⟨rfl, ⟨nd, rfl⟩⟩
 refine ⟨_, rfl, ?_⟩
 refine hK.out _ _ ⟨((HB.out.cell (World.block_lt_of_cell? w _ hw133_0)).trans hw133_0), ((HB.out.cell (World.block_lt_of_cell? w _ hw133_1)).trans hw133_1), ((HB.out.cell (World.block_lt_of_cell? w _ hw133_2)).trans hw133_2), ((HB.out.cell (World.block_lt_of_cell? w _ hw133_3)).trans hw133_3), ((HB.out.cell (World.block_lt_of_cell? w _ hw133_4)).trans hw133_4), ((HB.out.cell (World.block_lt_of_cell? w _ hw133_5)).trans hw133_5)⟩ (fun hHeld => ?_)
 clear hK K
 refine norm_ (a' := ?_) ?_ ?_
 rotate_left
 {
 show Act.put _ (some 23) _ = _
 simp only [Act.put, List.setIfInBounds_toArray, List.set_cons_zero, List.set_cons_succ, i64_w, i32_w]
 rfl}
 refine done_ (done_of HT_.out s2_) ?_
 try go_wp2
 go_loopg [6, 7, 27] k (fun kq v6 v7 v27 w' => ∃ (x6_1 : Int) (x7_1 : Int) (x27_1 : Int), v6 = .int .i64 x6_1 ∧ v7 = .int .i64 x7_1 ∧ v27 = .int .i64 x27_1 ∧ Aside0 (spec_l07Needed.l0 kq l0 a1 x6_1 x7_1 (l0.length : Int) x27_1 = some r) ∧ Aside0 (kq ≤ k) ∧ Aside0 (Below w.heap.size w w'))
 case atStart => exact ⟨(0), (a1), (0), s1_, s1_, s1_, H', ⟨Nat.le_refl _⟩, ⟨by repeat (first | (with_reducible first | exact HB.out | apply below_alloc | apply pw_below_drewN | apply below_drew1) | exact HB.out)⟩⟩
 case round =>
  skip
  {
 clear H'
 try clear c1
 try clear p1
 try clear q1
 try clear hx1
 try clear p2
 try clear c3
 try clear c3b0
 try clear c4
 try clear c4b0
 try clear c6
 try clear c7
 try clear c7b0
 try clear c8
 try clear c8b0
 try clear c8b1
 try clear c10
 try clear p12
 try clear q12
 try clear hx12
 try clear c13
 try clear p13
 try clear q13
 try clear hx13
 try clear c16
 try clear q16
 try clear hx127_0
 try clear hx127_1
 try clear hx127_2
 try clear hx127_3
 try clear hx127_4
 try clear hx127_5
 try clear hx133_0
 try clear hx133_1
 try clear hx133_2
 try clear hx133_3
 try clear hx133_4
 try clear hx133_5
 try clear p127
 try clear p133
 try clear q013
 try clear q016
 try clear q127
 try clear q13
 try clear q133
 try clear q16
 obtain ⟨x6_1, x7_1, x27_1, rfl, rfl, rfl, HA, HK1, HB⟩ := hrel
 cases gk with
 | zero => exact absurd HA.out (by simp [spec_l07Needed.l0])
 | succ k1 =>
  skip
  {
 have H := HA.out
 clear HA
 simp only [spec_l07Needed.l0] at H
 by_cases c17 : x27_1 < (l0.length : Int)
 {
 rw [if_pos c17] at H
 have c17b0 : decide (x27_1 < (l0.length : Int)) = true := decide_eq_true c17
 clear c17
 by_cases c18 : 0 ≤ x27_1
 {
 rw [if_pos c18] at H
 have c18b0 : decide (0 ≤ x27_1) = true := decide_eq_true c18
 clear c18
 by_cases c19 : x27_1 < (l0.length : Int)
 {
 rw [if_pos c19] at H
 have c19b0 : decide (x27_1 < (l0.length : Int)) = true := decide_eq_true c19
 clear c19
 replace H := Option.bind_eq_some_iff.mp H
 obtain ⟨t136, A200, H⟩ := H
 replace H : (if t136 = true then (if ((rd_T26 l0 x27_1).f1) = ((rd_T26 l0 a1).f1) then (if ((rd_T26 l0 x27_1).f2) = ((rd_T26 l0 a1).f2) then (if x27_1 ≤ (l0.length : Int) then ((spec_l07Gone.f k1 (l0.drop (x27_1 : Int).toNat) ((rd_T26 l0 a1).f1)).bind fun t143 => (if t143 = true then (spec_l07Needed.l0 k1 l0 a1 x6_1 x7_1 (l0.length : Int) (wrap64 (x27_1 + 1))) else (spec_l07Needed.l0 k1 l0 a1 (wrap64 (x6_1 + 1)) x27_1 (l0.length : Int) (wrap64 (x27_1 + 1))))) else (none)) else (spec_l07Needed.l0 k1 l0 a1 x6_1 x7_1 (l0.length : Int) (wrap64 (x27_1 + 1)))) else (spec_l07Needed.l0 k1 l0 a1 x6_1 x7_1 (l0.length : Int) (wrap64 (x27_1 + 1)))) else (spec_l07Needed.l0 k1 l0 a1 x6_1 x7_1 (l0.length : Int) (wrap64 (x27_1 + 1)))) = some r := H
 have A20 := Aside0.mk A200
 clear A200
 by_cases c21 : t136 = true
 {
 subst c21
 have H1 : (if ((rd_T26 l0 x27_1).f1) = ((rd_T26 l0 a1).f1) then (if ((rd_T26 l0 x27_1).f2) = ((rd_T26 l0 a1).f2) then (if x27_1 ≤ (l0.length : Int) then ((spec_l07Gone.f k1 (l0.drop (x27_1 : Int).toNat) ((rd_T26 l0 a1).f1)).bind fun t143 => (if t143 = true then (spec_l07Needed.l0 k1 l0 a1 x6_1 x7_1 (l0.length : Int) (wrap64 (x27_1 + 1))) else (spec_l07Needed.l0 k1 l0 a1 (wrap64 (x6_1 + 1)) x27_1 (l0.length : Int) (wrap64 (x27_1 + 1))))) else (none)) else (spec_l07Needed.l0 k1 l0 a1 x6_1 x7_1 (l0.length : Int) (wrap64 (x27_1 + 1)))) else (spec_l07Needed.l0 k1 l0 a1 x6_1 x7_1 (l0.length : Int) (wrap64 (x27_1 + 1)))) = some r := by rw [if_pos rfl] at H; exact H
 clear H
 have H := H1
 clear H1
 by_cases c22 : ((rd_T26 l0 x27_1).f1) = ((rd_T26 l0 a1).f1)
 {
 rw [if_pos c22] at H
 have c22b0 : (((rd_T26 l0 x27_1).f1) == ((rd_T26 l0 a1).f1)) = true := beq_iff_eq.mpr c22
 have c22b1 : (((rd_T26 l0 x27_1).f1) != ((rd_T26 l0 a1).f1)) = false := bne_eq_false_iff_eq.mpr c22
 clear c22
 by_cases c23 : ((rd_T26 l0 x27_1).f2) = ((rd_T26 l0 a1).f2)
 {
 rw [if_pos c23] at H
 have c23b0 : (((rd_T26 l0 x27_1).f2) == ((rd_T26 l0 a1).f2)) = true := beq_iff_eq.mpr c23
 have c23b1 : (((rd_T26 l0 x27_1).f2) != ((rd_T26 l0 a1).f2)) = false := bne_eq_false_iff_eq.mpr c23
 clear c23
 have c24b0 := eq_true (of_decide_eq_true (by first | (with_reducible assumption) | assumption) : 0 ≤ x27_1)
 by_cases c25 : x27_1 ≤ (l0.length : Int)
 {
 rw [if_pos c25] at H
 have c25b0 := eq_true c25
 have c25b1 : decide (x27_1 ≤ (l0.length : Int)) = true := decide_eq_true c25
 clear c25
 obtain ⟨y139, hy139⟩ : ∃ y_ : List (S26), y_ = (l0.drop (x27_1 : Int).toNat) := ⟨_, rfl⟩
 replace H : ((spec_l07Gone.f k1 y139 ((rd_T26 l0 a1).f1)).bind fun t143 => (if t143 = true then (spec_l07Needed.l0 k1 l0 a1 x6_1 x7_1 (l0.length : Int) (wrap64 (x27_1 + 1))) else (spec_l07Needed.l0 k1 l0 a1 (wrap64 (x6_1 + 1)) x27_1 (l0.length : Int) (wrap64 (x27_1 + 1))))) = some r := by first | (rw [hy139]; with_reducible exact H) | (have H2_ := (Option.bind_some _ _).symm.trans H; rw [hy139]; with_reducible exact H2_) | (have H2_ := (Option.bind_some _ _).symm.trans H; with_reducible exact H2_) | with_reducible exact H | (rw [hy139]; exact H) | exact H
 have Ny139 := Aside0.mk hy139
 clear hy139
 replace H := Option.bind_eq_some_iff.mp H
 obtain ⟨t143, A260, H⟩ := H
 replace H : (if t143 = true then (spec_l07Needed.l0 k1 l0 a1 x6_1 x7_1 (l0.length : Int) (wrap64 (x27_1 + 1))) else (spec_l07Needed.l0 k1 l0 a1 (wrap64 (x6_1 + 1)) x27_1 (l0.length : Int) (wrap64 (x27_1 + 1)))) = some r := H
 have A26 := Aside0.mk A260
 clear A260
 by_cases c27 : t143 = true
 {
 subst c27
 have H1 : (spec_l07Needed.l0 k1 l0 a1 x6_1 x7_1 (l0.length : Int) (wrap64 (x27_1 + 1))) = some r := by rw [if_pos rfl] at H; exact H
 clear H
 have H := H1
 clear H1
 have H' := Aside0.mk H
 clear H
 have p135 : 0 ≤ (x27_1 : Int) := of_decide_eq_true (by first | (with_reducible assumption) | assumption)
 have q135 : x27_1 < (l0.length : Int) := of_decide_eq_true (by first | (with_reducible assumption) | assumption)
 obtain ⟨ad135, e135, hx135_0, hx135_1, hx135_2, hx135_3, hx135_4, hx135_5⟩ := at_T26 HR0.out x27_1 p135 q135
 obtain rfl : ad127 = ad135 := (by injection e135)
 replace hx135_0 := (HB.out.cell (World.block_lt_of_cell? w _ hx135_0)).trans hx135_0
 replace hx135_1 := (HB.out.cell (World.block_lt_of_cell? w _ hx135_1)).trans hx135_1
 replace hx135_2 := (HB.out.cell (World.block_lt_of_cell? w _ hx135_2)).trans hx135_2
 replace hx135_3 := (HB.out.cell (World.block_lt_of_cell? w _ hx135_3)).trans hx135_3
 replace hx135_4 := (HB.out.cell (World.block_lt_of_cell? w _ hx135_4)).trans hx135_4
 replace hx135_5 := (HB.out.cell (World.block_lt_of_cell? w _ hx135_5)).trans hx135_5
 replace p135 := eq_true p135
 replace q135 := eq_true q135
 try go_wp2
 have n0_ := Aside0.mk (below_drew1 HB.out)
 clear HB
 have HB := n0_
 clear n0_
 have p137 : 0 ≤ (x27_1 : Int) := of_decide_eq_true (by first | (with_reducible assumption) | assumption)
 have q137 : x27_1 < (l0.length : Int) := of_decide_eq_true (by first | (with_reducible assumption) | assumption)
 obtain ⟨ad137, e137, hx137_0, hx137_1, hx137_2, hx137_3, hx137_4, hx137_5⟩ := at_T26 HR0.out x27_1 p137 q137
 have hw137_5 := hx137_5
 have hw137_4 := hx137_4
 have hw137_3 := hx137_3
 have hw137_2 := hx137_2
 have hw137_1 := hx137_1
 have hw137_0 := hx137_0
 obtain rfl : ad127 = ad137 := (by injection e137)
 replace hx137_0 := (HB.out.cell (World.block_lt_of_cell? w _ hx137_0)).trans hx137_0
 replace hx137_1 := (HB.out.cell (World.block_lt_of_cell? w _ hx137_1)).trans hx137_1
 replace hx137_2 := (HB.out.cell (World.block_lt_of_cell? w _ hx137_2)).trans hx137_2
 replace hx137_3 := (HB.out.cell (World.block_lt_of_cell? w _ hx137_3)).trans hx137_3
 replace hx137_4 := (HB.out.cell (World.block_lt_of_cell? w _ hx137_4)).trans hx137_4
 replace hx137_5 := (HB.out.cell (World.block_lt_of_cell? w _ hx137_5)).trans hx137_5
 replace p137 := eq_true p137
 replace q137 := eq_true q137
 have p138 : 0 ≤ (a1 : Int) := (by first | exact of_decide_eq_true (by first | (with_reducible assumption) | assumption) | exact hbd127.out.1)
 have q138 : a1 < (l0.length : Int) := (by first | exact of_decide_eq_true (by first | (with_reducible assumption) | assumption) | exact hbd127.out.2)
 obtain ⟨ad138, e138, hx138_0, hx138_1, hx138_2, hx138_3, hx138_4, hx138_5⟩ := at_T26 HR0.out a1 p138 q138
 have hw138_5 := hx138_5
 have hw138_4 := hx138_4
 have hw138_3 := hx138_3
 have hw138_2 := hx138_2
 have hw138_1 := hx138_1
 have hw138_0 := hx138_0
 obtain rfl : ad127 = ad138 := (by injection e138)
 replace hx138_0 := (HB.out.cell (World.block_lt_of_cell? w _ hx138_0)).trans hx138_0
 replace hx138_1 := (HB.out.cell (World.block_lt_of_cell? w _ hx138_1)).trans hx138_1
 replace hx138_2 := (HB.out.cell (World.block_lt_of_cell? w _ hx138_2)).trans hx138_2
 replace hx138_3 := (HB.out.cell (World.block_lt_of_cell? w _ hx138_3)).trans hx138_3
 replace hx138_4 := (HB.out.cell (World.block_lt_of_cell? w _ hx138_4)).trans hx138_4
 replace hx138_5 := (HB.out.cell (World.block_lt_of_cell? w _ hx138_5)).trans hx138_5
 replace p138 := eq_true p138
 replace q138 := eq_true q138
 refine start_ (n := 35) (S := fun w' => w'.cell? (ad127.add ((x27_1).toNat * 6)) = some (.int .i64 ((rd_T26 l0 x27_1).f0)) ∧ w'.cell? ⟨(ad127.add ((x27_1).toNat * 6)).block, (ad127.add ((x27_1).toNat * 6)).off + 1, none⟩ = some (.int .i64 ((rd_T26 l0 x27_1).f1)) ∧ w'.cell? ⟨(ad127.add ((x27_1).toNat * 6)).block, (ad127.add ((x27_1).toNat * 6)).off + 2, none⟩ = some (.int .i64 ((rd_T26 l0 x27_1).f2)) ∧ w'.cell? ⟨(ad127.add ((x27_1).toNat * 6)).block, (ad127.add ((x27_1).toNat * 6)).off + 3, none⟩ = some (.int .i64 ((rd_T26 l0 x27_1).f3)) ∧ w'.cell? ⟨(ad127.add ((x27_1).toNat * 6)).block, (ad127.add ((x27_1).toNat * 6)).off + 4, none⟩ = some (.string ((rd_T26 l0 x27_1).f4)) ∧ w'.cell? ⟨(ad127.add ((x27_1).toNat * 6)).block, (ad127.add ((x27_1).toNat * 6)).off + 5, none⟩ = some (.int .i64 ((rd_T26 l0 x27_1).f5)) ∧ w'.cell? (ad127.add ((a1).toNat * 6)) = some (.int .i64 ((rd_T26 l0 a1).f0)) ∧ w'.cell? ⟨(ad127.add ((a1).toNat * 6)).block, (ad127.add ((a1).toNat * 6)).off + 1, none⟩ = some (.int .i64 ((rd_T26 l0 a1).f1)) ∧ w'.cell? ⟨(ad127.add ((a1).toNat * 6)).block, (ad127.add ((a1).toNat * 6)).off + 2, none⟩ = some (.int .i64 ((rd_T26 l0 a1).f2)) ∧ w'.cell? ⟨(ad127.add ((a1).toNat * 6)).block, (ad127.add ((a1).toNat * 6)).off + 3, none⟩ = some (.int .i64 ((rd_T26 l0 a1).f3)) ∧ w'.cell? ⟨(ad127.add ((a1).toNat * 6)).block, (ad127.add ((a1).toNat * 6)).off + 4, none⟩ = some (.string ((rd_T26 l0 a1).f4)) ∧ w'.cell? ⟨(ad127.add ((a1).toNat * 6)).block, (ad127.add ((a1).toNat * 6)).off + 5, none⟩ = some (.int .i64 ((rd_T26 l0 a1).f5))) (ds := []) m9_ s2_ rfl rfl ⟨((HB.out.cell (World.block_lt_of_cell? w _ hw137_0)).trans hw137_0), ((HB.out.cell (World.block_lt_of_cell? w _ hw137_1)).trans hw137_1), ((HB.out.cell (World.block_lt_of_cell? w _ hw137_2)).trans hw137_2), ((HB.out.cell (World.block_lt_of_cell? w _ hw137_3)).trans hw137_3), ((HB.out.cell (World.block_lt_of_cell? w _ hw137_4)).trans hw137_4), ((HB.out.cell (World.block_lt_of_cell? w _ hw137_5)).trans hw137_5), ((HB.out.cell (World.block_lt_of_cell? w _ hw138_0)).trans hw138_0), ((HB.out.cell (World.block_lt_of_cell? w _ hw138_1)).trans hw138_1), ((HB.out.cell (World.block_lt_of_cell? w _ hw138_2)).trans hw138_2), ((HB.out.cell (World.block_lt_of_cell? w _ hw138_3)).trans hw138_3), ((HB.out.cell (World.block_lt_of_cell? w _ hw138_4)).trans hw138_4), ((HB.out.cell (World.block_lt_of_cell? w _ hw138_5)).trans hw138_5)⟩ (fun hHeld => ?_); refine with_tabW spec_l07Needed.tab12 spec_l07Needed.bits12 (fun HT_ HW_ => ?_)
 generalize wr.drew = w28 at HB hx137_0 hx137_1 hx137_2 hx137_3 hx137_4 hx137_5 hx138_0 hx138_1 hx138_2 hx138_3 hx138_4 hx138_5 hHeld ⊢
 refine pu_ 0 33 m10_ (any_of HT_.out s2_) ?_
 refine one_ (i := 1) (N := some 34) m11_ rfl rfl (one_of HT_.out s2_) (by decide) (fun K hK => ?_)
 refine goes_ Try.func77 s2_ rfl #[.pointer (some (ad127.add ((x27_1).toNat * 6)))] (by rfl) rfl rfl s3_ ?_
 with_reducible refine (spec_l07Opinion_v1.calls ad127 c0 l0 x27_1 true _ ?side1 ?side2 A20.out).mono ?_
 (case side1 => repeat (first | exact (Kd.C_below HR0.out HB.out) | (with_reducible refine Kd.C_alloc ?_ _) | (with_reducible refine Kd.C_drewN ?_ _) | (with_reducible refine Kd.C_drew ?_)))
 (case side2 => exact HC0.out)
 rintro e w29 ⟨rfl, hb⟩
 refine ⟨_, rfl, ?_⟩
 have n0_ := Aside0.mk (below_step (by repeat (first | (with_reducible first | exact HB.out | apply below_alloc | apply pw_below_drewN | apply below_drew1) | exact HB.out)) hb)
 clear HB
 have HB := n0_
 clear n0_
 (try clear hb)
 (try clear hb2)
 (try clear hk)
 (try clear hi)
 have q30 : (x27_1 : Int) ≤ ((l0.length : Int) : Int) := of_decide_eq_true (by first | (with_reducible assumption) | assumption)
 obtain ⟨i030, hi030, _, hsz30, _⟩ := info_parts info26
 have hroom30 : l0.length ≤ c0 := HC0.out
 have hC30 : Kd.C k26 _ (some ad127) l0.length l0 := HR0.out
 have q030 : (0 : Int) ≤ (x27_1 : Int) := of_decide_eq_true (by first | (with_reducible assumption) | assumption)
 have hcut30 := cut_from (P := Try.prog) 44 26 .i64 Try.underlying44 hi030 6 hsz30 (some ad127) l0.length c0 x27_1 q030 q30
 have hr30 := Kd.C_drop (m := (x27_1 : Int).toNat) (c := c0) hC30 (by omega) hroom30
 obtain ⟨A30, hA30⟩ : ∃ A1, A1 = (if c0 = (x27_1 : Int).toNat then (some ad127) else ((some ad127) : Option Addr).map (·.add ((x27_1 : Int).toNat * 6))) := ⟨_, rfl⟩
 obtain ⟨c30, hc30⟩ : ∃ c1, c1 = c0 - (x27_1 : Int).toNat := ⟨_, rfl⟩
 have hy30 : y139.length = l0.length - (x27_1 : Int).toNat := (by rw [Ny139.out, List.length_drop] <;> omega)
 rw [show (l0).drop (x27_1 : Int).toNat = y139 from Ny139.out.symm] at hr30
 replace hr30 : Kd.C k26 _ A30 y139.length y139 := (by rw [hA30]; exact hr30)
 rw [← hy30, ← hA30, ← hc30] at hcut30
 have HR142 := Aside0.mk hr30
 have HC142 := Aside0.mk (show y139.length ≤ c30 from by rw [hy30, hc30]; exact Nat.sub_le_sub_right hroom30 _)
 clear hr30 hC30 hroom30 hi030 hsz30 hc30
 have KY30 := Aside0.mk hy30
 have KA30 := Aside0.mk hA30
 clear hy30 hA30
 replace q30 := eq_true q30
 refine hK.out _ _ ⟨((HB.out.cell (World.block_lt_of_cell? w _ hw137_0)).trans hw137_0), ((HB.out.cell (World.block_lt_of_cell? w _ hw137_1)).trans hw137_1), ((HB.out.cell (World.block_lt_of_cell? w _ hw137_2)).trans hw137_2), ((HB.out.cell (World.block_lt_of_cell? w _ hw137_3)).trans hw137_3), ((HB.out.cell (World.block_lt_of_cell? w _ hw137_4)).trans hw137_4), ((HB.out.cell (World.block_lt_of_cell? w _ hw137_5)).trans hw137_5), ((HB.out.cell (World.block_lt_of_cell? w _ hw138_0)).trans hw138_0), ((HB.out.cell (World.block_lt_of_cell? w _ hw138_1)).trans hw138_1), ((HB.out.cell (World.block_lt_of_cell? w _ hw138_2)).trans hw138_2), ((HB.out.cell (World.block_lt_of_cell? w _ hw138_3)).trans hw138_3), ((HB.out.cell (World.block_lt_of_cell? w _ hw138_4)).trans hw138_4), ((HB.out.cell (World.block_lt_of_cell? w _ hw138_5)).trans hw138_5)⟩ (fun hHeld => ?_)
 clear hK K
 refine norm_ (a' := ?_) ?_ ?_
 rotate_left
 {
 show Act.put _ (some 34) _ = _
 simp only [Act.put, List.setIfInBounds_toArray, List.set_cons_zero, List.set_cons_succ, i64_w, i32_w]
 rfl}
 refine pu_ 2 35 m12_ (any_of HT_.out s2_) ?_
 refine pu_ 3 36 m13_ (any_of HT_.out s2_) ?_
 refine pu_ 4 37 m14_ (any_of HT_.out s2_) ?_
 refine pu_ 5 38 m15_ (any_of HT_.out s2_) ?_
 refine pu_ 7 40 m16_ (any_of HT_.out s2_) ?_
 refine pu_ 8 41 m17_ (any_of HT_.out s2_) ?_
 refine pu_ 9 42 m18_ (any_of HT_.out s2_) ?_
 refine take_ (i := 6) (N := some 39) (v := ?_) (a' := ?_) m19_ rfl rfl (take_ofW HT_.out HW_.out s2_) (fun _ _ _ h => h) (Or.inl ⟨by rfl, ?_⟩) hHeld ?_ ?_
 rotate_left
 {
 rintro w' ⟨s0, s1, s2, s3, s4, s5, s6, s7, s8, s9, s10, s11⟩
 go_simp
 with_reducible rfl}
 rotate_left
 · exact p1_
 refine take_ (i := 10) (N := some 43) (v := ?_) (a' := ?_) m20_ rfl rfl (take_ofW HT_.out HW_.out s2_) (fun _ _ _ h => h) (Or.inl ⟨by rfl, ?_⟩) hHeld ?_ ?_
 rotate_left
 {
 rintro w' ⟨s0, s1, s2, s3, s4, s5, s6, s7, s8, s9, s10, s11⟩
 go_simp
 with_reducible rfl}
 rotate_left
 · exact p1_
 refine pu_ 11 44 m21_ (any_of HT_.out s2_) ?_
 refine pu_ 12 45 m22_ (any_of HT_.out s2_) ?_
 refine pu_ 13 46 m23_ (any_of HT_.out s2_) ?_
 refine pu_ 14 47 m24_ (any_of HT_.out s2_) ?_
 refine pu_ 15 48 m25_ (any_of HT_.out s2_) ?_
 refine pu_ 16 49 m26_ (any_of HT_.out s2_) ?_
 refine pu_ 18 51 m27_ (any_of HT_.out s2_) ?_
 refine pu_ 19 52 m28_ (any_of HT_.out s2_) ?_
 refine pu_ 20 53 m29_ (any_of HT_.out s2_) ?_
 refine take_ (i := 17) (N := some 50) (v := ?_) (a' := ?_) m30_ rfl rfl (take_ofW HT_.out HW_.out s2_) (fun _ _ _ h => h) (Or.inl ⟨by rfl, ?_⟩) hHeld ?_ ?_
 rotate_left
 {
 rintro w' ⟨s0, s1, s2, s3, s4, s5, s6, s7, s8, s9, s10, s11⟩
 go_simp
 with_reducible rfl}
 rotate_left
 · exact p1_
 refine take_ (i := 21) (N := some 54) (v := ?_) (a' := ?_) m31_ rfl rfl (take_ofW HT_.out HW_.out s2_) (fun _ _ _ h => h) (Or.inl ⟨by rfl, ?_⟩) hHeld ?_ ?_
 rotate_left
 {
 rintro w' ⟨s0, s1, s2, s3, s4, s5, s6, s7, s8, s9, s10, s11⟩
 go_simp
 with_reducible rfl}
 rotate_left
 · exact p1_
 refine pu_ 22 55 m32_ (any_of HT_.out s2_) ?_
 refine pu_ 23 56 m33_ (any_of HT_.out s2_) ?_
 refine pu_ 24 57 m34_ (any_of HT_.out s2_) ?_
 refine pu_ 25 58 m35_ (any_of HT_.out s2_) ?_
 refine pu_ 26 59 m36_ (any_of HT_.out s2_) ?_
 refine pu_ 27 60 m37_ (any_of HT_.out s2_) ?_
 refine pu_ 28 61 m38_ (any_of HT_.out s2_) ?_
 refine pu_ 29 62 m39_ (any_of HT_.out s2_) ?_
 refine pu_ 30 63 m40_ (any_of HT_.out s2_) ?_
 refine take_ (i := 31) (N := some 64) (v := ?_) (a' := ?_) m41_ rfl rfl (take_ofW HT_.out HW_.out s2_) (fun _ _ _ h => h) (Or.inl ⟨by rfl, ?_⟩) hHeld ?_ ?_
 rotate_left
 {
 rintro w' ⟨s0, s1, s2, s3, s4, s5, s6, s7, s8, s9, s10, s11⟩
 go_simp
 with_reducible rfl}
 rotate_left
 · exact p1_
 refine one_ (i := 32) (N := some 65) m42_ rfl rfl (one_of HT_.out s2_) (by decide) (fun K hK => ?_)
 refine goes_ Try.func78 s2_ rfl #[.slice A30 y139.length c30, .int .i64 ((rd_T26 l0 a1).f1)] (by rfl) rfl rfl s3_ ?_
 with_reducible refine (spec_l07Gone.calls k1 _ _ y139 ((rd_T26 l0 a1).f1) true _ ?side1 ?side2 A26.out).mono ?_
 (case side1 => repeat (first | exact (Kd.C_below HR142.out HB.out) | (with_reducible refine Kd.C_alloc ?_ _) | (with_reducible refine Kd.C_drewN ?_ _) | (with_reducible refine Kd.C_drew ?_)))
 (case side2 => exact HC142.out)
 rintro e w' ⟨rfl, ⟨nd, rfl⟩⟩
 refine ⟨_, rfl, ?_⟩
 refine hK.out _ _ ⟨((HB.out.cell (World.block_lt_of_cell? w _ hw137_0)).trans hw137_0), ((HB.out.cell (World.block_lt_of_cell? w _ hw137_1)).trans hw137_1), ((HB.out.cell (World.block_lt_of_cell? w _ hw137_2)).trans hw137_2), ((HB.out.cell (World.block_lt_of_cell? w _ hw137_3)).trans hw137_3), ((HB.out.cell (World.block_lt_of_cell? w _ hw137_4)).trans hw137_4), ((HB.out.cell (World.block_lt_of_cell? w _ hw137_5)).trans hw137_5), ((HB.out.cell (World.block_lt_of_cell? w _ hw138_0)).trans hw138_0), ((HB.out.cell (World.block_lt_of_cell? w _ hw138_1)).trans hw138_1), ((HB.out.cell (World.block_lt_of_cell? w _ hw138_2)).trans hw138_2), ((HB.out.cell (World.block_lt_of_cell? w _ hw138_3)).trans hw138_3), ((HB.out.cell (World.block_lt_of_cell? w _ hw138_4)).trans hw138_4), ((HB.out.cell (World.block_lt_of_cell? w _ hw138_5)).trans hw138_5)⟩ (fun hHeld => ?_)
 clear hK K
 refine norm_ (a' := ?_) ?_ ?_
 rotate_left
 {
 show Act.put _ (some 65) _ = _
 simp only [Act.put, List.setIfInBounds_toArray, List.set_cons_zero, List.set_cons_succ, i64_w, i32_w]
 rfl}
 refine pu_ 33 66 m43_ (any_of HT_.out s2_) ?_
 refine pu_ 34 67 m44_ (any_of HT_.out s2_) ?_
 refine done_ (done_of HT_.out s2_) ?_
 try go_wp2
 go_roundg k1
 case measure => have := HK1.out; omega
 case rel => exact ⟨(x6_1), (x7_1), (wrap64 (x27_1 + 1)), s1_, s1_, s1_, H', ⟨by have := HK1.out; omega⟩, ⟨by repeat (first | (with_reducible first | exact HB.out | apply below_alloc | apply pw_below_drewN | apply below_drew1) | exact HB.out)⟩⟩}
 {
 replace c27 := Bool.eq_false_iff.mpr c27
 subst c27
 have H1 : (spec_l07Needed.l0 k1 l0 a1 (wrap64 (x6_1 + 1)) x27_1 (l0.length : Int) (wrap64 (x27_1 + 1))) = some r := by rw [if_neg (show ¬ (false = true) by decide)] at H; exact H
 clear H
 have H := H1
 clear H1
 have H' := Aside0.mk H
 clear H
 have p135 : 0 ≤ (x27_1 : Int) := of_decide_eq_true (by first | (with_reducible assumption) | assumption)
 have q135 : x27_1 < (l0.length : Int) := of_decide_eq_true (by first | (with_reducible assumption) | assumption)
 obtain ⟨ad135, e135, hx135_0, hx135_1, hx135_2, hx135_3, hx135_4, hx135_5⟩ := at_T26 HR0.out x27_1 p135 q135
 obtain rfl : ad127 = ad135 := (by injection e135)
 replace hx135_0 := (HB.out.cell (World.block_lt_of_cell? w _ hx135_0)).trans hx135_0
 replace hx135_1 := (HB.out.cell (World.block_lt_of_cell? w _ hx135_1)).trans hx135_1
 replace hx135_2 := (HB.out.cell (World.block_lt_of_cell? w _ hx135_2)).trans hx135_2
 replace hx135_3 := (HB.out.cell (World.block_lt_of_cell? w _ hx135_3)).trans hx135_3
 replace hx135_4 := (HB.out.cell (World.block_lt_of_cell? w _ hx135_4)).trans hx135_4
 replace hx135_5 := (HB.out.cell (World.block_lt_of_cell? w _ hx135_5)).trans hx135_5
 replace p135 := eq_true p135
 replace q135 := eq_true q135
 try go_wp2
 have n0_ := Aside0.mk (below_drew1 HB.out)
 clear HB
 have HB := n0_
 clear n0_
 have p137 : 0 ≤ (x27_1 : Int) := of_decide_eq_true (by first | (with_reducible assumption) | assumption)
 have q137 : x27_1 < (l0.length : Int) := of_decide_eq_true (by first | (with_reducible assumption) | assumption)
 obtain ⟨ad137, e137, hx137_0, hx137_1, hx137_2, hx137_3, hx137_4, hx137_5⟩ := at_T26 HR0.out x27_1 p137 q137
 have hw137_5 := hx137_5
 have hw137_4 := hx137_4
 have hw137_3 := hx137_3
 have hw137_2 := hx137_2
 have hw137_1 := hx137_1
 have hw137_0 := hx137_0
 obtain rfl : ad127 = ad137 := (by injection e137)
 replace hx137_0 := (HB.out.cell (World.block_lt_of_cell? w _ hx137_0)).trans hx137_0
 replace hx137_1 := (HB.out.cell (World.block_lt_of_cell? w _ hx137_1)).trans hx137_1
 replace hx137_2 := (HB.out.cell (World.block_lt_of_cell? w _ hx137_2)).trans hx137_2
 replace hx137_3 := (HB.out.cell (World.block_lt_of_cell? w _ hx137_3)).trans hx137_3
 replace hx137_4 := (HB.out.cell (World.block_lt_of_cell? w _ hx137_4)).trans hx137_4
 replace hx137_5 := (HB.out.cell (World.block_lt_of_cell? w _ hx137_5)).trans hx137_5
 replace p137 := eq_true p137
 replace q137 := eq_true q137
 have p138 : 0 ≤ (a1 : Int) := (by first | exact of_decide_eq_true (by first | (with_reducible assumption) | assumption) | exact hbd127.out.1)
 have q138 : a1 < (l0.length : Int) := (by first | exact of_decide_eq_true (by first | (with_reducible assumption) | assumption) | exact hbd127.out.2)
 obtain ⟨ad138, e138, hx138_0, hx138_1, hx138_2, hx138_3, hx138_4, hx138_5⟩ := at_T26 HR0.out a1 p138 q138
 have hw138_5 := hx138_5
 have hw138_4 := hx138_4
 have hw138_3 := hx138_3
 have hw138_2 := hx138_2
 have hw138_1 := hx138_1
 have hw138_0 := hx138_0
 obtain rfl : ad127 = ad138 := (by injection e138)
 replace hx138_0 := (HB.out.cell (World.block_lt_of_cell? w _ hx138_0)).trans hx138_0
 replace hx138_1 := (HB.out.cell (World.block_lt_of_cell? w _ hx138_1)).trans hx138_1
 replace hx138_2 := (HB.out.cell (World.block_lt_of_cell? w _ hx138_2)).trans hx138_2
 replace hx138_3 := (HB.out.cell (World.block_lt_of_cell? w _ hx138_3)).trans hx138_3
 replace hx138_4 := (HB.out.cell (World.block_lt_of_cell? w _ hx138_4)).trans hx138_4
 replace hx138_5 := (HB.out.cell (World.block_lt_of_cell? w _ hx138_5)).trans hx138_5
 replace p138 := eq_true p138
 replace q138 := eq_true q138
 refine start_ (n := 35) (S := fun w' => w'.cell? (ad127.add ((x27_1).toNat * 6)) = some (.int .i64 ((rd_T26 l0 x27_1).f0)) ∧ w'.cell? ⟨(ad127.add ((x27_1).toNat * 6)).block, (ad127.add ((x27_1).toNat * 6)).off + 1, none⟩ = some (.int .i64 ((rd_T26 l0 x27_1).f1)) ∧ w'.cell? ⟨(ad127.add ((x27_1).toNat * 6)).block, (ad127.add ((x27_1).toNat * 6)).off + 2, none⟩ = some (.int .i64 ((rd_T26 l0 x27_1).f2)) ∧ w'.cell? ⟨(ad127.add ((x27_1).toNat * 6)).block, (ad127.add ((x27_1).toNat * 6)).off + 3, none⟩ = some (.int .i64 ((rd_T26 l0 x27_1).f3)) ∧ w'.cell? ⟨(ad127.add ((x27_1).toNat * 6)).block, (ad127.add ((x27_1).toNat * 6)).off + 4, none⟩ = some (.string ((rd_T26 l0 x27_1).f4)) ∧ w'.cell? ⟨(ad127.add ((x27_1).toNat * 6)).block, (ad127.add ((x27_1).toNat * 6)).off + 5, none⟩ = some (.int .i64 ((rd_T26 l0 x27_1).f5)) ∧ w'.cell? (ad127.add ((a1).toNat * 6)) = some (.int .i64 ((rd_T26 l0 a1).f0)) ∧ w'.cell? ⟨(ad127.add ((a1).toNat * 6)).block, (ad127.add ((a1).toNat * 6)).off + 1, none⟩ = some (.int .i64 ((rd_T26 l0 a1).f1)) ∧ w'.cell? ⟨(ad127.add ((a1).toNat * 6)).block, (ad127.add ((a1).toNat * 6)).off + 2, none⟩ = some (.int .i64 ((rd_T26 l0 a1).f2)) ∧ w'.cell? ⟨(ad127.add ((a1).toNat * 6)).block, (ad127.add ((a1).toNat * 6)).off + 3, none⟩ = some (.int .i64 ((rd_T26 l0 a1).f3)) ∧ w'.cell? ⟨(ad127.add ((a1).toNat * 6)).block, (ad127.add ((a1).toNat * 6)).off + 4, none⟩ = some (.string ((rd_T26 l0 a1).f4)) ∧ w'.cell? ⟨(ad127.add ((a1).toNat * 6)).block, (ad127.add ((a1).toNat * 6)).off + 5, none⟩ = some (.int .i64 ((rd_T26 l0 a1).f5))) (ds := []) m9_ s2_ rfl rfl ⟨((HB.out.cell (World.block_lt_of_cell? w _ hw137_0)).trans hw137_0), ((HB.out.cell (World.block_lt_of_cell? w _ hw137_1)).trans hw137_1), ((HB.out.cell (World.block_lt_of_cell? w _ hw137_2)).trans hw137_2), ((HB.out.cell (World.block_lt_of_cell? w _ hw137_3)).trans hw137_3), ((HB.out.cell (World.block_lt_of_cell? w _ hw137_4)).trans hw137_4), ((HB.out.cell (World.block_lt_of_cell? w _ hw137_5)).trans hw137_5), ((HB.out.cell (World.block_lt_of_cell? w _ hw138_0)).trans hw138_0), ((HB.out.cell (World.block_lt_of_cell? w _ hw138_1)).trans hw138_1), ((HB.out.cell (World.block_lt_of_cell? w _ hw138_2)).trans hw138_2), ((HB.out.cell (World.block_lt_of_cell? w _ hw138_3)).trans hw138_3), ((HB.out.cell (World.block_lt_of_cell? w _ hw138_4)).trans hw138_4), ((HB.out.cell (World.block_lt_of_cell? w _ hw138_5)).trans hw138_5)⟩ (fun hHeld => ?_); refine with_tabW spec_l07Needed.tab12 spec_l07Needed.bits12 (fun HT_ HW_ => ?_)
 generalize wr.drew = w31 at HB hx137_0 hx137_1 hx137_2 hx137_3 hx137_4 hx137_5 hx138_0 hx138_1 hx138_2 hx138_3 hx138_4 hx138_5 hHeld ⊢
 refine pu_ 0 33 m10_ (any_of HT_.out s2_) ?_
 refine one_ (i := 1) (N := some 34) m11_ rfl rfl (one_of HT_.out s2_) (by decide) (fun K hK => ?_)
 refine goes_ Try.func77 s2_ rfl #[.pointer (some (ad127.add ((x27_1).toNat * 6)))] (by rfl) rfl rfl s3_ ?_
 with_reducible refine (spec_l07Opinion_v1.calls ad127 c0 l0 x27_1 true _ ?side1 ?side2 A20.out).mono ?_
 (case side1 => repeat (first | exact (Kd.C_below HR0.out HB.out) | (with_reducible refine Kd.C_alloc ?_ _) | (with_reducible refine Kd.C_drewN ?_ _) | (with_reducible refine Kd.C_drew ?_)))
 (case side2 => exact HC0.out)
 rintro e w32 ⟨rfl, hb⟩
 refine ⟨_, rfl, ?_⟩
 have n0_ := Aside0.mk (below_step (by repeat (first | (with_reducible first | exact HB.out | apply below_alloc | apply pw_below_drewN | apply below_drew1) | exact HB.out)) hb)
 clear HB
 have HB := n0_
 clear n0_
 (try clear hb)
 (try clear hb2)
 (try clear hk)
 (try clear hi)
 (try clear hcut30)
 have q33 : (x27_1 : Int) ≤ ((l0.length : Int) : Int) := of_decide_eq_true (by first | (with_reducible assumption) | assumption)
 obtain ⟨i033, hi033, _, hsz33, _⟩ := info_parts info26
 have hroom33 : l0.length ≤ c0 := HC0.out
 have hC33 : Kd.C k26 _ (some ad127) l0.length l0 := HR0.out
 have q033 : (0 : Int) ≤ (x27_1 : Int) := of_decide_eq_true (by first | (with_reducible assumption) | assumption)
 have hcut33 := cut_from (P := Try.prog) 44 26 .i64 Try.underlying44 hi033 6 hsz33 (some ad127) l0.length c0 x27_1 q033 q33
 have hr33 := Kd.C_drop (m := (x27_1 : Int).toNat) (c := c0) hC33 (by omega) hroom33
 obtain ⟨A33, hA33⟩ : ∃ A1, A1 = (if c0 = (x27_1 : Int).toNat then (some ad127) else ((some ad127) : Option Addr).map (·.add ((x27_1 : Int).toNat * 6))) := ⟨_, rfl⟩
 obtain ⟨c33, hc33⟩ : ∃ c1, c1 = c0 - (x27_1 : Int).toNat := ⟨_, rfl⟩
 have hy33 : y139.length = l0.length - (x27_1 : Int).toNat := (by rw [Ny139.out, List.length_drop] <;> omega)
 rw [show (l0).drop (x27_1 : Int).toNat = y139 from Ny139.out.symm] at hr33
 replace hr33 : Kd.C k26 _ A33 y139.length y139 := (by rw [hA33]; exact hr33)
 rw [← hy33, ← hA33, ← hc33] at hcut33
 have HR142 := Aside0.mk hr33
 have HC142 := Aside0.mk (show y139.length ≤ c33 from by rw [hy33, hc33]; exact Nat.sub_le_sub_right hroom33 _)
 clear hr33 hC33 hroom33 hi033 hsz33 hc33
 have KY33 := Aside0.mk hy33
 have KA33 := Aside0.mk hA33
 clear hy33 hA33
 replace q33 := eq_true q33
 refine hK.out _ _ ⟨((HB.out.cell (World.block_lt_of_cell? w _ hw137_0)).trans hw137_0), ((HB.out.cell (World.block_lt_of_cell? w _ hw137_1)).trans hw137_1), ((HB.out.cell (World.block_lt_of_cell? w _ hw137_2)).trans hw137_2), ((HB.out.cell (World.block_lt_of_cell? w _ hw137_3)).trans hw137_3), ((HB.out.cell (World.block_lt_of_cell? w _ hw137_4)).trans hw137_4), ((HB.out.cell (World.block_lt_of_cell? w _ hw137_5)).trans hw137_5), ((HB.out.cell (World.block_lt_of_cell? w _ hw138_0)).trans hw138_0), ((HB.out.cell (World.block_lt_of_cell? w _ hw138_1)).trans hw138_1), ((HB.out.cell (World.block_lt_of_cell? w _ hw138_2)).trans hw138_2), ((HB.out.cell (World.block_lt_of_cell? w _ hw138_3)).trans hw138_3), ((HB.out.cell (World.block_lt_of_cell? w _ hw138_4)).trans hw138_4), ((HB.out.cell (World.block_lt_of_cell? w _ hw138_5)).trans hw138_5)⟩ (fun hHeld => ?_)
 clear hK K
 refine norm_ (a' := ?_) ?_ ?_
 rotate_left
 {
 show Act.put _ (some 34) _ = _
 simp only [Act.put, List.setIfInBounds_toArray, List.set_cons_zero, List.set_cons_succ, i64_w, i32_w]
 rfl}
 refine pu_ 2 35 m12_ (any_of HT_.out s2_) ?_
 refine pu_ 3 36 m13_ (any_of HT_.out s2_) ?_
 refine pu_ 4 37 m14_ (any_of HT_.out s2_) ?_
 refine pu_ 5 38 m15_ (any_of HT_.out s2_) ?_
 refine pu_ 7 40 m16_ (any_of HT_.out s2_) ?_
 refine pu_ 8 41 m17_ (any_of HT_.out s2_) ?_
 refine pu_ 9 42 m18_ (any_of HT_.out s2_) ?_
 refine take_ (i := 6) (N := some 39) (v := ?_) (a' := ?_) m19_ rfl rfl (take_ofW HT_.out HW_.out s2_) (fun _ _ _ h => h) (Or.inl ⟨by rfl, ?_⟩) hHeld ?_ ?_
 rotate_left
 {
 rintro w' ⟨s0, s1, s2, s3, s4, s5, s6, s7, s8, s9, s10, s11⟩
 go_simp
 with_reducible rfl}
 rotate_left
 · exact p1_
 refine take_ (i := 10) (N := some 43) (v := ?_) (a' := ?_) m20_ rfl rfl (take_ofW HT_.out HW_.out s2_) (fun _ _ _ h => h) (Or.inl ⟨by rfl, ?_⟩) hHeld ?_ ?_
 rotate_left
 {
 rintro w' ⟨s0, s1, s2, s3, s4, s5, s6, s7, s8, s9, s10, s11⟩
 go_simp
 with_reducible rfl}
 rotate_left
 · exact p1_
 refine pu_ 11 44 m21_ (any_of HT_.out s2_) ?_
 refine pu_ 12 45 m22_ (any_of HT_.out s2_) ?_
 refine pu_ 13 46 m23_ (any_of HT_.out s2_) ?_
 refine pu_ 14 47 m24_ (any_of HT_.out s2_) ?_
 refine pu_ 15 48 m25_ (any_of HT_.out s2_) ?_
 refine pu_ 16 49 m26_ (any_of HT_.out s2_) ?_
 refine pu_ 18 51 m27_ (any_of HT_.out s2_) ?_
 refine pu_ 19 52 m28_ (any_of HT_.out s2_) ?_
 refine pu_ 20 53 m29_ (any_of HT_.out s2_) ?_
 refine take_ (i := 17) (N := some 50) (v := ?_) (a' := ?_) m30_ rfl rfl (take_ofW HT_.out HW_.out s2_) (fun _ _ _ h => h) (Or.inl ⟨by rfl, ?_⟩) hHeld ?_ ?_
 rotate_left
 {
 rintro w' ⟨s0, s1, s2, s3, s4, s5, s6, s7, s8, s9, s10, s11⟩
 go_simp
 with_reducible rfl}
 rotate_left
 · exact p1_
 refine take_ (i := 21) (N := some 54) (v := ?_) (a' := ?_) m31_ rfl rfl (take_ofW HT_.out HW_.out s2_) (fun _ _ _ h => h) (Or.inl ⟨by rfl, ?_⟩) hHeld ?_ ?_
 rotate_left
 {
 rintro w' ⟨s0, s1, s2, s3, s4, s5, s6, s7, s8, s9, s10, s11⟩
 go_simp
 with_reducible rfl}
 rotate_left
 · exact p1_
 refine pu_ 22 55 m32_ (any_of HT_.out s2_) ?_
 refine pu_ 23 56 m33_ (any_of HT_.out s2_) ?_
 refine pu_ 24 57 m34_ (any_of HT_.out s2_) ?_
 refine pu_ 25 58 m35_ (any_of HT_.out s2_) ?_
 refine pu_ 26 59 m36_ (any_of HT_.out s2_) ?_
 refine pu_ 27 60 m37_ (any_of HT_.out s2_) ?_
 refine pu_ 28 61 m38_ (any_of HT_.out s2_) ?_
 refine pu_ 29 62 m39_ (any_of HT_.out s2_) ?_
 refine pu_ 30 63 m40_ (any_of HT_.out s2_) ?_
 refine take_ (i := 31) (N := some 64) (v := ?_) (a' := ?_) m41_ rfl rfl (take_ofW HT_.out HW_.out s2_) (fun _ _ _ h => h) (Or.inl ⟨by rfl, ?_⟩) hHeld ?_ ?_
 rotate_left
 {
 rintro w' ⟨s0, s1, s2, s3, s4, s5, s6, s7, s8, s9, s10, s11⟩
 go_simp
 with_reducible rfl}
 rotate_left
 · exact p1_
 refine one_ (i := 32) (N := some 65) m42_ rfl rfl (one_of HT_.out s2_) (by decide) (fun K hK => ?_)
 refine goes_ Try.func78 s2_ rfl #[.slice A33 y139.length c33, .int .i64 ((rd_T26 l0 a1).f1)] (by rfl) rfl rfl s3_ ?_
 with_reducible refine (spec_l07Gone.calls k1 _ _ y139 ((rd_T26 l0 a1).f1) false _ ?side1 ?side2 A26.out).mono ?_
 (case side1 => repeat (first | exact (Kd.C_below HR142.out HB.out) | (with_reducible refine Kd.C_alloc ?_ _) | (with_reducible refine Kd.C_drewN ?_ _) | (with_reducible refine Kd.C_drew ?_)))
 (case side2 => exact HC142.out)
 rintro e w' ⟨rfl, ⟨nd, rfl⟩⟩
 refine ⟨_, rfl, ?_⟩
 refine hK.out _ _ ⟨((HB.out.cell (World.block_lt_of_cell? w _ hw137_0)).trans hw137_0), ((HB.out.cell (World.block_lt_of_cell? w _ hw137_1)).trans hw137_1), ((HB.out.cell (World.block_lt_of_cell? w _ hw137_2)).trans hw137_2), ((HB.out.cell (World.block_lt_of_cell? w _ hw137_3)).trans hw137_3), ((HB.out.cell (World.block_lt_of_cell? w _ hw137_4)).trans hw137_4), ((HB.out.cell (World.block_lt_of_cell? w _ hw137_5)).trans hw137_5), ((HB.out.cell (World.block_lt_of_cell? w _ hw138_0)).trans hw138_0), ((HB.out.cell (World.block_lt_of_cell? w _ hw138_1)).trans hw138_1), ((HB.out.cell (World.block_lt_of_cell? w _ hw138_2)).trans hw138_2), ((HB.out.cell (World.block_lt_of_cell? w _ hw138_3)).trans hw138_3), ((HB.out.cell (World.block_lt_of_cell? w _ hw138_4)).trans hw138_4), ((HB.out.cell (World.block_lt_of_cell? w _ hw138_5)).trans hw138_5)⟩ (fun hHeld => ?_)
 clear hK K
 refine norm_ (a' := ?_) ?_ ?_
 rotate_left
 {
 show Act.put _ (some 65) _ = _
 simp only [Act.put, List.setIfInBounds_toArray, List.set_cons_zero, List.set_cons_succ, i64_w, i32_w]
 rfl}
 refine pu_ 33 66 m43_ (any_of HT_.out s2_) ?_
 refine pu_ 34 67 m44_ (any_of HT_.out s2_) ?_
 refine done_ (done_of HT_.out s2_) ?_
 try go_wp2
 go_roundg k1
 case measure => have := HK1.out; omega
 case rel => exact ⟨(wrap64 (x6_1 + 1)), (x27_1), (wrap64 (x27_1 + 1)), s1_, s1_, s1_, H', ⟨by have := HK1.out; omega⟩, ⟨by repeat (first | (with_reducible first | exact HB.out | apply below_alloc | apply pw_below_drewN | apply below_drew1) | exact HB.out)⟩⟩}}
 {
 rw [if_neg c25] at H
 exact absurd H (by simp)}}
 {
 rw [if_neg c23] at H
 have c23b0 : (((rd_T26 l0 x27_1).f2) == ((rd_T26 l0 a1).f2)) = false := beq_eq_false_iff_ne.mpr c23
 have c23b1 : (((rd_T26 l0 x27_1).f2) != ((rd_T26 l0 a1).f2)) = true := bne_iff_ne.mpr c23
 have H' := Aside0.mk H
 clear H
 have p135 : 0 ≤ (x27_1 : Int) := of_decide_eq_true (by first | (with_reducible assumption) | assumption)
 have q135 : x27_1 < (l0.length : Int) := of_decide_eq_true (by first | (with_reducible assumption) | assumption)
 obtain ⟨ad135, e135, hx135_0, hx135_1, hx135_2, hx135_3, hx135_4, hx135_5⟩ := at_T26 HR0.out x27_1 p135 q135
 obtain rfl : ad127 = ad135 := (by injection e135)
 replace hx135_0 := (HB.out.cell (World.block_lt_of_cell? w _ hx135_0)).trans hx135_0
 replace hx135_1 := (HB.out.cell (World.block_lt_of_cell? w _ hx135_1)).trans hx135_1
 replace hx135_2 := (HB.out.cell (World.block_lt_of_cell? w _ hx135_2)).trans hx135_2
 replace hx135_3 := (HB.out.cell (World.block_lt_of_cell? w _ hx135_3)).trans hx135_3
 replace hx135_4 := (HB.out.cell (World.block_lt_of_cell? w _ hx135_4)).trans hx135_4
 replace hx135_5 := (HB.out.cell (World.block_lt_of_cell? w _ hx135_5)).trans hx135_5
 replace p135 := eq_true p135
 replace q135 := eq_true q135
 try go_wp2
 have n0_ := Aside0.mk (below_drew1 HB.out)
 clear HB
 have HB := n0_
 clear n0_
 have p137 : 0 ≤ (x27_1 : Int) := of_decide_eq_true (by first | (with_reducible assumption) | assumption)
 have q137 : x27_1 < (l0.length : Int) := of_decide_eq_true (by first | (with_reducible assumption) | assumption)
 obtain ⟨ad137, e137, hx137_0, hx137_1, hx137_2, hx137_3, hx137_4, hx137_5⟩ := at_T26 HR0.out x27_1 p137 q137
 have hw137_5 := hx137_5
 have hw137_4 := hx137_4
 have hw137_3 := hx137_3
 have hw137_2 := hx137_2
 have hw137_1 := hx137_1
 have hw137_0 := hx137_0
 obtain rfl : ad127 = ad137 := (by injection e137)
 replace hx137_0 := (HB.out.cell (World.block_lt_of_cell? w _ hx137_0)).trans hx137_0
 replace hx137_1 := (HB.out.cell (World.block_lt_of_cell? w _ hx137_1)).trans hx137_1
 replace hx137_2 := (HB.out.cell (World.block_lt_of_cell? w _ hx137_2)).trans hx137_2
 replace hx137_3 := (HB.out.cell (World.block_lt_of_cell? w _ hx137_3)).trans hx137_3
 replace hx137_4 := (HB.out.cell (World.block_lt_of_cell? w _ hx137_4)).trans hx137_4
 replace hx137_5 := (HB.out.cell (World.block_lt_of_cell? w _ hx137_5)).trans hx137_5
 replace p137 := eq_true p137
 replace q137 := eq_true q137
 have p138 : 0 ≤ (a1 : Int) := (by first | exact of_decide_eq_true (by first | (with_reducible assumption) | assumption) | exact hbd127.out.1)
 have q138 : a1 < (l0.length : Int) := (by first | exact of_decide_eq_true (by first | (with_reducible assumption) | assumption) | exact hbd127.out.2)
 obtain ⟨ad138, e138, hx138_0, hx138_1, hx138_2, hx138_3, hx138_4, hx138_5⟩ := at_T26 HR0.out a1 p138 q138
 have hw138_5 := hx138_5
 have hw138_4 := hx138_4
 have hw138_3 := hx138_3
 have hw138_2 := hx138_2
 have hw138_1 := hx138_1
 have hw138_0 := hx138_0
 obtain rfl : ad127 = ad138 := (by injection e138)
 replace hx138_0 := (HB.out.cell (World.block_lt_of_cell? w _ hx138_0)).trans hx138_0
 replace hx138_1 := (HB.out.cell (World.block_lt_of_cell? w _ hx138_1)).trans hx138_1
 replace hx138_2 := (HB.out.cell (World.block_lt_of_cell? w _ hx138_2)).trans hx138_2
 replace hx138_3 := (HB.out.cell (World.block_lt_of_cell? w _ hx138_3)).trans hx138_3
 replace hx138_4 := (HB.out.cell (World.block_lt_of_cell? w _ hx138_4)).trans hx138_4
 replace hx138_5 := (HB.out.cell (World.block_lt_of_cell? w _ hx138_5)).trans hx138_5
 replace p138 := eq_true p138
 replace q138 := eq_true q138
 refine start_ (n := 35) (S := fun w' => w'.cell? (ad127.add ((x27_1).toNat * 6)) = some (.int .i64 ((rd_T26 l0 x27_1).f0)) ∧ w'.cell? ⟨(ad127.add ((x27_1).toNat * 6)).block, (ad127.add ((x27_1).toNat * 6)).off + 1, none⟩ = some (.int .i64 ((rd_T26 l0 x27_1).f1)) ∧ w'.cell? ⟨(ad127.add ((x27_1).toNat * 6)).block, (ad127.add ((x27_1).toNat * 6)).off + 2, none⟩ = some (.int .i64 ((rd_T26 l0 x27_1).f2)) ∧ w'.cell? ⟨(ad127.add ((x27_1).toNat * 6)).block, (ad127.add ((x27_1).toNat * 6)).off + 3, none⟩ = some (.int .i64 ((rd_T26 l0 x27_1).f3)) ∧ w'.cell? ⟨(ad127.add ((x27_1).toNat * 6)).block, (ad127.add ((x27_1).toNat * 6)).off + 4, none⟩ = some (.string ((rd_T26 l0 x27_1).f4)) ∧ w'.cell? ⟨(ad127.add ((x27_1).toNat * 6)).block, (ad127.add ((x27_1).toNat * 6)).off + 5, none⟩ = some (.int .i64 ((rd_T26 l0 x27_1).f5)) ∧ w'.cell? (ad127.add ((a1).toNat * 6)) = some (.int .i64 ((rd_T26 l0 a1).f0)) ∧ w'.cell? ⟨(ad127.add ((a1).toNat * 6)).block, (ad127.add ((a1).toNat * 6)).off + 1, none⟩ = some (.int .i64 ((rd_T26 l0 a1).f1)) ∧ w'.cell? ⟨(ad127.add ((a1).toNat * 6)).block, (ad127.add ((a1).toNat * 6)).off + 2, none⟩ = some (.int .i64 ((rd_T26 l0 a1).f2)) ∧ w'.cell? ⟨(ad127.add ((a1).toNat * 6)).block, (ad127.add ((a1).toNat * 6)).off + 3, none⟩ = some (.int .i64 ((rd_T26 l0 a1).f3)) ∧ w'.cell? ⟨(ad127.add ((a1).toNat * 6)).block, (ad127.add ((a1).toNat * 6)).off + 4, none⟩ = some (.string ((rd_T26 l0 a1).f4)) ∧ w'.cell? ⟨(ad127.add ((a1).toNat * 6)).block, (ad127.add ((a1).toNat * 6)).off + 5, none⟩ = some (.int .i64 ((rd_T26 l0 a1).f5))) (ds := []) m9_ s2_ rfl rfl ⟨((HB.out.cell (World.block_lt_of_cell? w _ hw137_0)).trans hw137_0), ((HB.out.cell (World.block_lt_of_cell? w _ hw137_1)).trans hw137_1), ((HB.out.cell (World.block_lt_of_cell? w _ hw137_2)).trans hw137_2), ((HB.out.cell (World.block_lt_of_cell? w _ hw137_3)).trans hw137_3), ((HB.out.cell (World.block_lt_of_cell? w _ hw137_4)).trans hw137_4), ((HB.out.cell (World.block_lt_of_cell? w _ hw137_5)).trans hw137_5), ((HB.out.cell (World.block_lt_of_cell? w _ hw138_0)).trans hw138_0), ((HB.out.cell (World.block_lt_of_cell? w _ hw138_1)).trans hw138_1), ((HB.out.cell (World.block_lt_of_cell? w _ hw138_2)).trans hw138_2), ((HB.out.cell (World.block_lt_of_cell? w _ hw138_3)).trans hw138_3), ((HB.out.cell (World.block_lt_of_cell? w _ hw138_4)).trans hw138_4), ((HB.out.cell (World.block_lt_of_cell? w _ hw138_5)).trans hw138_5)⟩ (fun hHeld => ?_); refine with_tabW spec_l07Needed.tab12 spec_l07Needed.bits12 (fun HT_ HW_ => ?_)
 generalize wr.drew = w34 at HB hx137_0 hx137_1 hx137_2 hx137_3 hx137_4 hx137_5 hx138_0 hx138_1 hx138_2 hx138_3 hx138_4 hx138_5 hHeld ⊢
 refine pu_ 0 33 m10_ (any_of HT_.out s2_) ?_
 refine one_ (i := 1) (N := some 34) m11_ rfl rfl (one_of HT_.out s2_) (by decide) (fun K hK => ?_)
 refine goes_ Try.func77 s2_ rfl #[.pointer (some (ad127.add ((x27_1).toNat * 6)))] (by rfl) rfl rfl s3_ ?_
 with_reducible refine (spec_l07Opinion_v1.calls ad127 c0 l0 x27_1 true _ ?side1 ?side2 A20.out).mono ?_
 (case side1 => repeat (first | exact (Kd.C_below HR0.out HB.out) | (with_reducible refine Kd.C_alloc ?_ _) | (with_reducible refine Kd.C_drewN ?_ _) | (with_reducible refine Kd.C_drew ?_)))
 (case side2 => exact HC0.out)
 rintro e w35 ⟨rfl, hb⟩
 refine ⟨_, rfl, ?_⟩
 have n0_ := Aside0.mk (below_step (by repeat (first | (with_reducible first | exact HB.out | apply below_alloc | apply pw_below_drewN | apply below_drew1) | exact HB.out)) hb)
 clear HB
 have HB := n0_
 clear n0_
 (try clear hb)
 (try clear hb2)
 (try clear hk)
 (try clear hi)
 refine hK.out _ _ ⟨((HB.out.cell (World.block_lt_of_cell? w _ hw137_0)).trans hw137_0), ((HB.out.cell (World.block_lt_of_cell? w _ hw137_1)).trans hw137_1), ((HB.out.cell (World.block_lt_of_cell? w _ hw137_2)).trans hw137_2), ((HB.out.cell (World.block_lt_of_cell? w _ hw137_3)).trans hw137_3), ((HB.out.cell (World.block_lt_of_cell? w _ hw137_4)).trans hw137_4), ((HB.out.cell (World.block_lt_of_cell? w _ hw137_5)).trans hw137_5), ((HB.out.cell (World.block_lt_of_cell? w _ hw138_0)).trans hw138_0), ((HB.out.cell (World.block_lt_of_cell? w _ hw138_1)).trans hw138_1), ((HB.out.cell (World.block_lt_of_cell? w _ hw138_2)).trans hw138_2), ((HB.out.cell (World.block_lt_of_cell? w _ hw138_3)).trans hw138_3), ((HB.out.cell (World.block_lt_of_cell? w _ hw138_4)).trans hw138_4), ((HB.out.cell (World.block_lt_of_cell? w _ hw138_5)).trans hw138_5)⟩ (fun hHeld => ?_)
 clear hK K
 refine norm_ (a' := ?_) ?_ ?_
 rotate_left
 {
 show Act.put _ (some 34) _ = _
 simp only [Act.put, List.setIfInBounds_toArray, List.set_cons_zero, List.set_cons_succ, i64_w, i32_w]
 rfl}
 refine pu_ 2 35 m12_ (any_of HT_.out s2_) ?_
 refine pu_ 3 36 m13_ (any_of HT_.out s2_) ?_
 refine pu_ 4 37 m14_ (any_of HT_.out s2_) ?_
 refine pu_ 5 38 m15_ (any_of HT_.out s2_) ?_
 refine pu_ 7 40 m16_ (any_of HT_.out s2_) ?_
 refine pu_ 8 41 m17_ (any_of HT_.out s2_) ?_
 refine pu_ 9 42 m18_ (any_of HT_.out s2_) ?_
 refine take_ (i := 6) (N := some 39) (v := ?_) (a' := ?_) m19_ rfl rfl (take_ofW HT_.out HW_.out s2_) (fun _ _ _ h => h) (Or.inl ⟨by rfl, ?_⟩) hHeld ?_ ?_
 rotate_left
 {
 rintro w' ⟨s0, s1, s2, s3, s4, s5, s6, s7, s8, s9, s10, s11⟩
 go_simp
 with_reducible rfl}
 rotate_left
 · exact p1_
 refine take_ (i := 10) (N := some 43) (v := ?_) (a' := ?_) m20_ rfl rfl (take_ofW HT_.out HW_.out s2_) (fun _ _ _ h => h) (Or.inl ⟨by rfl, ?_⟩) hHeld ?_ ?_
 rotate_left
 {
 rintro w' ⟨s0, s1, s2, s3, s4, s5, s6, s7, s8, s9, s10, s11⟩
 go_simp
 with_reducible rfl}
 rotate_left
 · exact p1_
 refine pu_ 11 44 m21_ (any_of HT_.out s2_) ?_
 refine pu_ 12 45 m22_ (any_of HT_.out s2_) ?_
 refine pu_ 13 46 m23_ (any_of HT_.out s2_) ?_
 refine pu_ 14 47 m24_ (any_of HT_.out s2_) ?_
 refine pu_ 15 48 m25_ (any_of HT_.out s2_) ?_
 refine pu_ 16 49 m26_ (any_of HT_.out s2_) ?_
 refine pu_ 18 51 m27_ (any_of HT_.out s2_) ?_
 refine pu_ 19 52 m28_ (any_of HT_.out s2_) ?_
 refine pu_ 20 53 m29_ (any_of HT_.out s2_) ?_
 refine take_ (i := 17) (N := some 50) (v := ?_) (a' := ?_) m30_ rfl rfl (take_ofW HT_.out HW_.out s2_) (fun _ _ _ h => h) (Or.inl ⟨by rfl, ?_⟩) hHeld ?_ ?_
 rotate_left
 {
 rintro w' ⟨s0, s1, s2, s3, s4, s5, s6, s7, s8, s9, s10, s11⟩
 go_simp
 with_reducible rfl}
 rotate_left
 · exact p1_
 refine take_ (i := 21) (N := some 54) (v := ?_) (a' := ?_) m31_ rfl rfl (take_ofW HT_.out HW_.out s2_) (fun _ _ _ h => h) (Or.inl ⟨by rfl, ?_⟩) hHeld ?_ ?_
 rotate_left
 {
 rintro w' ⟨s0, s1, s2, s3, s4, s5, s6, s7, s8, s9, s10, s11⟩
 go_simp
 with_reducible rfl}
 rotate_left
 · exact p1_
 refine pu_ 22 55 m32_ (any_of HT_.out s2_) ?_
 refine pu_ 23 56 m33_ (any_of HT_.out s2_) ?_
 refine pu_ 24 57 m34_ (any_of HT_.out s2_) ?_
 refine pn_ 25 58 m35_ (any_of HT_.out s2_) ?_
 refine pn_ 26 59 m36_ (any_of HT_.out s2_) ?_
 refine pn_ 27 60 m37_ (any_of HT_.out s2_) ?_
 refine pn_ 28 61 m38_ (any_of HT_.out s2_) ?_
 refine pn_ 29 62 m39_ (any_of HT_.out s2_) ?_
 refine pn_ 30 63 m40_ (any_of HT_.out s2_) ?_
 refine pn_ 31 64 m41_ (any_of HT_.out s2_) ?_
 refine pn_ 32 65 m42_ (any_of HT_.out s2_) ?_
 refine pn_ 33 66 m43_ (any_of HT_.out s2_) ?_
 refine pu_ 34 67 m44_ (any_of HT_.out s2_) ?_
 refine done_ (done_of HT_.out s2_) ?_
 try go_wp2
 go_roundg k1
 case measure => have := HK1.out; omega
 case rel => exact ⟨(x6_1), (x7_1), (wrap64 (x27_1 + 1)), s1_, s1_, s1_, H', ⟨by have := HK1.out; omega⟩, ⟨by repeat (first | (with_reducible first | exact HB.out | apply below_alloc | apply pw_below_drewN | apply below_drew1) | exact HB.out)⟩⟩}}
 {
 rw [if_neg c22] at H
 have c22b0 : (((rd_T26 l0 x27_1).f1) == ((rd_T26 l0 a1).f1)) = false := beq_eq_false_iff_ne.mpr c22
 have c22b1 : (((rd_T26 l0 x27_1).f1) != ((rd_T26 l0 a1).f1)) = true := bne_iff_ne.mpr c22
 have H' := Aside0.mk H
 clear H
 have p135 : 0 ≤ (x27_1 : Int) := of_decide_eq_true (by first | (with_reducible assumption) | assumption)
 have q135 : x27_1 < (l0.length : Int) := of_decide_eq_true (by first | (with_reducible assumption) | assumption)
 obtain ⟨ad135, e135, hx135_0, hx135_1, hx135_2, hx135_3, hx135_4, hx135_5⟩ := at_T26 HR0.out x27_1 p135 q135
 obtain rfl : ad127 = ad135 := (by injection e135)
 replace hx135_0 := (HB.out.cell (World.block_lt_of_cell? w _ hx135_0)).trans hx135_0
 replace hx135_1 := (HB.out.cell (World.block_lt_of_cell? w _ hx135_1)).trans hx135_1
 replace hx135_2 := (HB.out.cell (World.block_lt_of_cell? w _ hx135_2)).trans hx135_2
 replace hx135_3 := (HB.out.cell (World.block_lt_of_cell? w _ hx135_3)).trans hx135_3
 replace hx135_4 := (HB.out.cell (World.block_lt_of_cell? w _ hx135_4)).trans hx135_4
 replace hx135_5 := (HB.out.cell (World.block_lt_of_cell? w _ hx135_5)).trans hx135_5
 replace p135 := eq_true p135
 replace q135 := eq_true q135
 try go_wp2
 have n0_ := Aside0.mk (below_drew1 HB.out)
 clear HB
 have HB := n0_
 clear n0_
 have p137 : 0 ≤ (x27_1 : Int) := of_decide_eq_true (by first | (with_reducible assumption) | assumption)
 have q137 : x27_1 < (l0.length : Int) := of_decide_eq_true (by first | (with_reducible assumption) | assumption)
 obtain ⟨ad137, e137, hx137_0, hx137_1, hx137_2, hx137_3, hx137_4, hx137_5⟩ := at_T26 HR0.out x27_1 p137 q137
 have hw137_5 := hx137_5
 have hw137_4 := hx137_4
 have hw137_3 := hx137_3
 have hw137_2 := hx137_2
 have hw137_1 := hx137_1
 have hw137_0 := hx137_0
 obtain rfl : ad127 = ad137 := (by injection e137)
 replace hx137_0 := (HB.out.cell (World.block_lt_of_cell? w _ hx137_0)).trans hx137_0
 replace hx137_1 := (HB.out.cell (World.block_lt_of_cell? w _ hx137_1)).trans hx137_1
 replace hx137_2 := (HB.out.cell (World.block_lt_of_cell? w _ hx137_2)).trans hx137_2
 replace hx137_3 := (HB.out.cell (World.block_lt_of_cell? w _ hx137_3)).trans hx137_3
 replace hx137_4 := (HB.out.cell (World.block_lt_of_cell? w _ hx137_4)).trans hx137_4
 replace hx137_5 := (HB.out.cell (World.block_lt_of_cell? w _ hx137_5)).trans hx137_5
 replace p137 := eq_true p137
 replace q137 := eq_true q137
 have p138 : 0 ≤ (a1 : Int) := (by first | exact of_decide_eq_true (by first | (with_reducible assumption) | assumption) | exact hbd127.out.1)
 have q138 : a1 < (l0.length : Int) := (by first | exact of_decide_eq_true (by first | (with_reducible assumption) | assumption) | exact hbd127.out.2)
 obtain ⟨ad138, e138, hx138_0, hx138_1, hx138_2, hx138_3, hx138_4, hx138_5⟩ := at_T26 HR0.out a1 p138 q138
 have hw138_5 := hx138_5
 have hw138_4 := hx138_4
 have hw138_3 := hx138_3
 have hw138_2 := hx138_2
 have hw138_1 := hx138_1
 have hw138_0 := hx138_0
 obtain rfl : ad127 = ad138 := (by injection e138)
 replace hx138_0 := (HB.out.cell (World.block_lt_of_cell? w _ hx138_0)).trans hx138_0
 replace hx138_1 := (HB.out.cell (World.block_lt_of_cell? w _ hx138_1)).trans hx138_1
 replace hx138_2 := (HB.out.cell (World.block_lt_of_cell? w _ hx138_2)).trans hx138_2
 replace hx138_3 := (HB.out.cell (World.block_lt_of_cell? w _ hx138_3)).trans hx138_3
 replace hx138_4 := (HB.out.cell (World.block_lt_of_cell? w _ hx138_4)).trans hx138_4
 replace hx138_5 := (HB.out.cell (World.block_lt_of_cell? w _ hx138_5)).trans hx138_5
 replace p138 := eq_true p138
 replace q138 := eq_true q138
 refine start_ (n := 35) (S := fun w' => w'.cell? (ad127.add ((x27_1).toNat * 6)) = some (.int .i64 ((rd_T26 l0 x27_1).f0)) ∧ w'.cell? ⟨(ad127.add ((x27_1).toNat * 6)).block, (ad127.add ((x27_1).toNat * 6)).off + 1, none⟩ = some (.int .i64 ((rd_T26 l0 x27_1).f1)) ∧ w'.cell? ⟨(ad127.add ((x27_1).toNat * 6)).block, (ad127.add ((x27_1).toNat * 6)).off + 2, none⟩ = some (.int .i64 ((rd_T26 l0 x27_1).f2)) ∧ w'.cell? ⟨(ad127.add ((x27_1).toNat * 6)).block, (ad127.add ((x27_1).toNat * 6)).off + 3, none⟩ = some (.int .i64 ((rd_T26 l0 x27_1).f3)) ∧ w'.cell? ⟨(ad127.add ((x27_1).toNat * 6)).block, (ad127.add ((x27_1).toNat * 6)).off + 4, none⟩ = some (.string ((rd_T26 l0 x27_1).f4)) ∧ w'.cell? ⟨(ad127.add ((x27_1).toNat * 6)).block, (ad127.add ((x27_1).toNat * 6)).off + 5, none⟩ = some (.int .i64 ((rd_T26 l0 x27_1).f5)) ∧ w'.cell? (ad127.add ((a1).toNat * 6)) = some (.int .i64 ((rd_T26 l0 a1).f0)) ∧ w'.cell? ⟨(ad127.add ((a1).toNat * 6)).block, (ad127.add ((a1).toNat * 6)).off + 1, none⟩ = some (.int .i64 ((rd_T26 l0 a1).f1)) ∧ w'.cell? ⟨(ad127.add ((a1).toNat * 6)).block, (ad127.add ((a1).toNat * 6)).off + 2, none⟩ = some (.int .i64 ((rd_T26 l0 a1).f2)) ∧ w'.cell? ⟨(ad127.add ((a1).toNat * 6)).block, (ad127.add ((a1).toNat * 6)).off + 3, none⟩ = some (.int .i64 ((rd_T26 l0 a1).f3)) ∧ w'.cell? ⟨(ad127.add ((a1).toNat * 6)).block, (ad127.add ((a1).toNat * 6)).off + 4, none⟩ = some (.string ((rd_T26 l0 a1).f4)) ∧ w'.cell? ⟨(ad127.add ((a1).toNat * 6)).block, (ad127.add ((a1).toNat * 6)).off + 5, none⟩ = some (.int .i64 ((rd_T26 l0 a1).f5))) (ds := []) m9_ s2_ rfl rfl ⟨((HB.out.cell (World.block_lt_of_cell? w _ hw137_0)).trans hw137_0), ((HB.out.cell (World.block_lt_of_cell? w _ hw137_1)).trans hw137_1), ((HB.out.cell (World.block_lt_of_cell? w _ hw137_2)).trans hw137_2), ((HB.out.cell (World.block_lt_of_cell? w _ hw137_3)).trans hw137_3), ((HB.out.cell (World.block_lt_of_cell? w _ hw137_4)).trans hw137_4), ((HB.out.cell (World.block_lt_of_cell? w _ hw137_5)).trans hw137_5), ((HB.out.cell (World.block_lt_of_cell? w _ hw138_0)).trans hw138_0), ((HB.out.cell (World.block_lt_of_cell? w _ hw138_1)).trans hw138_1), ((HB.out.cell (World.block_lt_of_cell? w _ hw138_2)).trans hw138_2), ((HB.out.cell (World.block_lt_of_cell? w _ hw138_3)).trans hw138_3), ((HB.out.cell (World.block_lt_of_cell? w _ hw138_4)).trans hw138_4), ((HB.out.cell (World.block_lt_of_cell? w _ hw138_5)).trans hw138_5)⟩ (fun hHeld => ?_); refine with_tabW spec_l07Needed.tab12 spec_l07Needed.bits12 (fun HT_ HW_ => ?_)
 generalize wr.drew = w36 at HB hx137_0 hx137_1 hx137_2 hx137_3 hx137_4 hx137_5 hx138_0 hx138_1 hx138_2 hx138_3 hx138_4 hx138_5 hHeld ⊢
 refine pu_ 0 33 m10_ (any_of HT_.out s2_) ?_
 refine one_ (i := 1) (N := some 34) m11_ rfl rfl (one_of HT_.out s2_) (by decide) (fun K hK => ?_)
 refine goes_ Try.func77 s2_ rfl #[.pointer (some (ad127.add ((x27_1).toNat * 6)))] (by rfl) rfl rfl s3_ ?_
 with_reducible refine (spec_l07Opinion_v1.calls ad127 c0 l0 x27_1 true _ ?side1 ?side2 A20.out).mono ?_
 (case side1 => repeat (first | exact (Kd.C_below HR0.out HB.out) | (with_reducible refine Kd.C_alloc ?_ _) | (with_reducible refine Kd.C_drewN ?_ _) | (with_reducible refine Kd.C_drew ?_)))
 (case side2 => exact HC0.out)
 rintro e w37 ⟨rfl, hb⟩
 refine ⟨_, rfl, ?_⟩
 have n0_ := Aside0.mk (below_step (by repeat (first | (with_reducible first | exact HB.out | apply below_alloc | apply pw_below_drewN | apply below_drew1) | exact HB.out)) hb)
 clear HB
 have HB := n0_
 clear n0_
 (try clear hb)
 (try clear hb2)
 (try clear hk)
 (try clear hi)
 refine hK.out _ _ ⟨((HB.out.cell (World.block_lt_of_cell? w _ hw137_0)).trans hw137_0), ((HB.out.cell (World.block_lt_of_cell? w _ hw137_1)).trans hw137_1), ((HB.out.cell (World.block_lt_of_cell? w _ hw137_2)).trans hw137_2), ((HB.out.cell (World.block_lt_of_cell? w _ hw137_3)).trans hw137_3), ((HB.out.cell (World.block_lt_of_cell? w _ hw137_4)).trans hw137_4), ((HB.out.cell (World.block_lt_of_cell? w _ hw137_5)).trans hw137_5), ((HB.out.cell (World.block_lt_of_cell? w _ hw138_0)).trans hw138_0), ((HB.out.cell (World.block_lt_of_cell? w _ hw138_1)).trans hw138_1), ((HB.out.cell (World.block_lt_of_cell? w _ hw138_2)).trans hw138_2), ((HB.out.cell (World.block_lt_of_cell? w _ hw138_3)).trans hw138_3), ((HB.out.cell (World.block_lt_of_cell? w _ hw138_4)).trans hw138_4), ((HB.out.cell (World.block_lt_of_cell? w _ hw138_5)).trans hw138_5)⟩ (fun hHeld => ?_)
 clear hK K
 refine norm_ (a' := ?_) ?_ ?_
 rotate_left
 {
 show Act.put _ (some 34) _ = _
 simp only [Act.put, List.setIfInBounds_toArray, List.set_cons_zero, List.set_cons_succ, i64_w, i32_w]
 rfl}
 refine pu_ 2 35 m12_ (any_of HT_.out s2_) ?_
 refine pu_ 3 36 m13_ (any_of HT_.out s2_) ?_
 refine pu_ 4 37 m14_ (any_of HT_.out s2_) ?_
 refine pu_ 5 38 m15_ (any_of HT_.out s2_) ?_
 refine pu_ 7 40 m16_ (any_of HT_.out s2_) ?_
 refine pu_ 8 41 m17_ (any_of HT_.out s2_) ?_
 refine pu_ 9 42 m18_ (any_of HT_.out s2_) ?_
 refine take_ (i := 6) (N := some 39) (v := ?_) (a' := ?_) m19_ rfl rfl (take_ofW HT_.out HW_.out s2_) (fun _ _ _ h => h) (Or.inl ⟨by rfl, ?_⟩) hHeld ?_ ?_
 rotate_left
 {
 rintro w' ⟨s0, s1, s2, s3, s4, s5, s6, s7, s8, s9, s10, s11⟩
 go_simp
 with_reducible rfl}
 rotate_left
 · exact p1_
 refine take_ (i := 10) (N := some 43) (v := ?_) (a' := ?_) m20_ rfl rfl (take_ofW HT_.out HW_.out s2_) (fun _ _ _ h => h) (Or.inl ⟨by rfl, ?_⟩) hHeld ?_ ?_
 rotate_left
 {
 rintro w' ⟨s0, s1, s2, s3, s4, s5, s6, s7, s8, s9, s10, s11⟩
 go_simp
 with_reducible rfl}
 rotate_left
 · exact p1_
 refine pu_ 11 44 m21_ (any_of HT_.out s2_) ?_
 refine pu_ 12 45 m22_ (any_of HT_.out s2_) ?_
 refine pu_ 13 46 m23_ (any_of HT_.out s2_) ?_
 refine pn_ 14 47 m24_ (any_of HT_.out s2_) ?_
 refine pn_ 15 48 m25_ (any_of HT_.out s2_) ?_
 refine pn_ 16 49 m26_ (any_of HT_.out s2_) ?_
 refine pn_ 17 50 m45_ (any_of HT_.out s2_) ?_
 refine pn_ 18 51 m46_ (any_of HT_.out s2_) ?_
 refine pn_ 19 52 m47_ (any_of HT_.out s2_) ?_
 refine pn_ 20 53 m30_ (any_of HT_.out s2_) ?_
 refine pn_ 21 54 m31_ (any_of HT_.out s2_) ?_
 refine pn_ 22 55 m32_ (any_of HT_.out s2_) ?_
 refine pu_ 23 56 m33_ (any_of HT_.out s2_) ?_
 refine pu_ 24 57 m34_ (any_of HT_.out s2_) ?_
 refine pn_ 25 58 m35_ (any_of HT_.out s2_) ?_
 refine pn_ 26 59 m36_ (any_of HT_.out s2_) ?_
 refine pn_ 27 60 m37_ (any_of HT_.out s2_) ?_
 refine pn_ 28 61 m38_ (any_of HT_.out s2_) ?_
 refine pn_ 29 62 m39_ (any_of HT_.out s2_) ?_
 refine pn_ 30 63 m40_ (any_of HT_.out s2_) ?_
 refine pn_ 31 64 m41_ (any_of HT_.out s2_) ?_
 refine pn_ 32 65 m42_ (any_of HT_.out s2_) ?_
 refine pn_ 33 66 m43_ (any_of HT_.out s2_) ?_
 refine pu_ 34 67 m44_ (any_of HT_.out s2_) ?_
 refine done_ (done_of HT_.out s2_) ?_
 try go_wp2
 go_roundg k1
 case measure => have := HK1.out; omega
 case rel => exact ⟨(x6_1), (x7_1), (wrap64 (x27_1 + 1)), s1_, s1_, s1_, H', ⟨by have := HK1.out; omega⟩, ⟨by repeat (first | (with_reducible first | exact HB.out | apply below_alloc | apply pw_below_drewN | apply below_drew1) | exact HB.out)⟩⟩}}
 {
 replace c21 := Bool.eq_false_iff.mpr c21
 subst c21
 have H1 : (spec_l07Needed.l0 k1 l0 a1 x6_1 x7_1 (l0.length : Int) (wrap64 (x27_1 + 1))) = some r := by rw [if_neg (show ¬ (false = true) by decide)] at H; exact H
 clear H
 have H := H1
 clear H1
 have H' := Aside0.mk H
 clear H
 have p135 : 0 ≤ (x27_1 : Int) := of_decide_eq_true (by first | (with_reducible assumption) | assumption)
 have q135 : x27_1 < (l0.length : Int) := of_decide_eq_true (by first | (with_reducible assumption) | assumption)
 obtain ⟨ad135, e135, hx135_0, hx135_1, hx135_2, hx135_3, hx135_4, hx135_5⟩ := at_T26 HR0.out x27_1 p135 q135
 obtain rfl : ad127 = ad135 := (by injection e135)
 replace hx135_0 := (HB.out.cell (World.block_lt_of_cell? w _ hx135_0)).trans hx135_0
 replace hx135_1 := (HB.out.cell (World.block_lt_of_cell? w _ hx135_1)).trans hx135_1
 replace hx135_2 := (HB.out.cell (World.block_lt_of_cell? w _ hx135_2)).trans hx135_2
 replace hx135_3 := (HB.out.cell (World.block_lt_of_cell? w _ hx135_3)).trans hx135_3
 replace hx135_4 := (HB.out.cell (World.block_lt_of_cell? w _ hx135_4)).trans hx135_4
 replace hx135_5 := (HB.out.cell (World.block_lt_of_cell? w _ hx135_5)).trans hx135_5
 replace p135 := eq_true p135
 replace q135 := eq_true q135
 try go_wp2
 have n0_ := Aside0.mk (below_drew1 HB.out)
 clear HB
 have HB := n0_
 clear n0_
 refine start_ (n := 35) (S := fun w' => True) (ds := []) m9_ s2_ rfl rfl trivial (fun hHeld => ?_); refine with_tabW spec_l07Needed.tab12 spec_l07Needed.bits12 (fun HT_ HW_ => ?_)
 generalize wr.drew = w38 at HB hHeld ⊢
 refine pu_ 0 33 m10_ (any_of HT_.out s2_) ?_
 refine one_ (i := 1) (N := some 34) m11_ rfl rfl (one_of HT_.out s2_) (by decide) (fun K hK => ?_)
 refine goes_ Try.func77 s2_ rfl #[.pointer (some (ad127.add ((x27_1).toNat * 6)))] (by rfl) rfl rfl s3_ ?_
 with_reducible refine (spec_l07Opinion_v1.calls ad127 c0 l0 x27_1 false _ ?side1 ?side2 A20.out).mono ?_
 (case side1 => repeat (first | exact (Kd.C_below HR0.out HB.out) | (with_reducible refine Kd.C_alloc ?_ _) | (with_reducible refine Kd.C_drewN ?_ _) | (with_reducible refine Kd.C_drew ?_)))
 (case side2 => exact HC0.out)
 rintro e w39 ⟨rfl, hb⟩
 refine ⟨_, rfl, ?_⟩
 have n0_ := Aside0.mk (below_step (by repeat (first | (with_reducible first | exact HB.out | apply below_alloc | apply pw_below_drewN | apply below_drew1) | exact HB.out)) hb)
 clear HB
 have HB := n0_
 clear n0_
 (try clear hb)
 (try clear hb2)
 (try clear hk)
 (try clear hi)
 refine hK.out _ _ trivial (fun hHeld => ?_)
 clear hK K
 refine norm_ (a' := ?_) ?_ ?_
 rotate_left
 {
 show Act.put _ (some 34) _ = _
 simp only [Act.put, List.setIfInBounds_toArray, List.set_cons_zero, List.set_cons_succ, i64_w, i32_w]
 rfl}
 refine pu_ 2 35 m12_ (any_of HT_.out s2_) ?_
 refine pn_ 3 36 m13_ (any_of HT_.out s2_) ?_
 refine pn_ 4 37 m14_ (any_of HT_.out s2_) ?_
 refine pn_ 5 38 m15_ (any_of HT_.out s2_) ?_
 refine pn_ 6 39 #[T,T,T,T,T,T,T,F,F,F,F,F,F,F,F,F,F,F,F,F,F,F,F,F,F,F,F,F,F,F,F,F,F,F,F] (any_of HT_.out s2_) ?_
 refine pn_ 7 40 #[T,T,T,T,T,T,T,T,F,F,F,F,F,F,F,F,F,F,F,F,F,F,F,F,F,F,F,F,F,F,F,F,F,F,F] (any_of HT_.out s2_) ?_
 refine pn_ 8 41 #[T,T,T,T,T,T,T,T,T,F,F,F,F,F,F,F,F,F,F,F,F,F,F,F,F,F,F,F,F,F,F,F,F,F,F] (any_of HT_.out s2_) ?_
 refine pn_ 9 42 m19_ (any_of HT_.out s2_) ?_
 refine pn_ 10 43 m20_ (any_of HT_.out s2_) ?_
 refine pn_ 11 44 m21_ (any_of HT_.out s2_) ?_
 refine pu_ 12 45 m22_ (any_of HT_.out s2_) ?_
 refine pu_ 13 46 m23_ (any_of HT_.out s2_) ?_
 refine pn_ 14 47 m24_ (any_of HT_.out s2_) ?_
 refine pn_ 15 48 m25_ (any_of HT_.out s2_) ?_
 refine pn_ 16 49 m26_ (any_of HT_.out s2_) ?_
 refine pn_ 17 50 m45_ (any_of HT_.out s2_) ?_
 refine pn_ 18 51 m46_ (any_of HT_.out s2_) ?_
 refine pn_ 19 52 m47_ (any_of HT_.out s2_) ?_
 refine pn_ 20 53 m30_ (any_of HT_.out s2_) ?_
 refine pn_ 21 54 m31_ (any_of HT_.out s2_) ?_
 refine pn_ 22 55 m32_ (any_of HT_.out s2_) ?_
 refine pu_ 23 56 m33_ (any_of HT_.out s2_) ?_
 refine pu_ 24 57 m34_ (any_of HT_.out s2_) ?_
 refine pn_ 25 58 m35_ (any_of HT_.out s2_) ?_
 refine pn_ 26 59 m36_ (any_of HT_.out s2_) ?_
 refine pn_ 27 60 m37_ (any_of HT_.out s2_) ?_
 refine pn_ 28 61 m38_ (any_of HT_.out s2_) ?_
 refine pn_ 29 62 m39_ (any_of HT_.out s2_) ?_
 refine pn_ 30 63 m40_ (any_of HT_.out s2_) ?_
 refine pn_ 31 64 m41_ (any_of HT_.out s2_) ?_
 refine pn_ 32 65 m42_ (any_of HT_.out s2_) ?_
 refine pn_ 33 66 m43_ (any_of HT_.out s2_) ?_
 refine pu_ 34 67 m44_ (any_of HT_.out s2_) ?_
 refine done_ (done_of HT_.out s2_) ?_
 try go_wp2
 go_roundg k1
 case measure => have := HK1.out; omega
 case rel => exact ⟨(x6_1), (x7_1), (wrap64 (x27_1 + 1)), s1_, s1_, s1_, H', ⟨by have := HK1.out; omega⟩, ⟨by repeat (first | (with_reducible first | exact HB.out | apply below_alloc | apply pw_below_drewN | apply below_drew1) | exact HB.out)⟩⟩}}
 {
 rw [if_neg c19] at H
 exact absurd H (by simp)}}
 {
 rw [if_neg c18] at H
 exact absurd H (by simp)}}
 {
 rw [if_neg c17] at H
 have c17b0 : decide (x27_1 < (l0.length : Int)) = false := decide_eq_false c17
 clear c17
 by_cases c40 : (Int.tmod x6_1 2) = 1
 {
 rw [if_pos c40] at H
 have c40b0 : ((Int.tmod x6_1 2) == 1) = true := beq_iff_eq.mpr c40
 have c40b1 : ((Int.tmod x6_1 2) != 1) = false := bne_eq_false_iff_eq.mpr c40
 clear c40
 obtain rfl := Option.some.inj H
 go_wp2
 go_ret
 exact ⟨by first | rfl | (simp [errW_none, errW_some] <;> rfl) | (simp [*, errW_none, errW_some] <;> rfl), by repeat (first | (with_reducible first | exact HB.out | apply below_alloc | apply pw_below_drewN | apply below_drew1) | exact HB.out)⟩}
 {
 rw [if_neg c40] at H
 have c40b0 : ((Int.tmod x6_1 2) == 1) = false := beq_eq_false_iff_ne.mpr c40
 have c40b1 : ((Int.tmod x6_1 2) != 1) = true := bne_iff_ne.mpr c40
 obtain rfl := Option.some.inj H
 go_wp2
 go_ret
 exact ⟨by first | rfl | (simp [errW_none, errW_some] <;> rfl) | (simp [*, errW_none, errW_some] <;> rfl), by repeat (first | (with_reducible first | exact HB.out | apply below_alloc | apply pw_below_drewN | apply below_drew1) | exact HB.out)⟩}}}}}}
 {
 rw [if_neg c8] at H
 exact absurd H (by simp)}}
 {
 replace c6 := Bool.eq_false_iff.mpr c6
 subst c6
 have H1 : (some true) = some r := by rw [if_neg (show ¬ (false = true) by decide)] at H; exact H
 clear H
 have H := H1
 clear H1
 obtain rfl := Option.some.inj H
 have p127 : 0 ≤ (a1 : Int) := of_decide_eq_true (by first | (with_reducible assumption) | assumption)
 have q127 : a1 < (l0.length : Int) := of_decide_eq_true (by first | (with_reducible assumption) | assumption)
 have hbd127 := Aside0.mk (And.intro p127 q127)
 obtain ⟨ad127, e127, hx127_0, hx127_1, hx127_2, hx127_3, hx127_4, hx127_5⟩ := at_T26 HR0.out a1 p127 q127
 cases e127
 replace p127 := eq_true p127
 replace q127 := eq_true q127
 go_enter Try.func61, Try.ntmps61
 go_wp2_with (first | ((with_reducible refine gate_callee (f := 77) rfl ?_); refine goesL_ (some 14) rfl rfl Try.func77 s2_ rfl #[.pointer (some (ad127.add ((a1).toNat * 6)))] rfl s3_ ?_; (with_reducible refine (spec_l07Opinion_v1.calls ad127 c0 l0 a1 false _ ?side1 ?side2 A5.out).mono ?_); (case side1 => repeat (first | exact HR0.out | (with_reducible refine Kd.C_alloc ?_ _) | (with_reducible refine Kd.C_drewN ?_ _) | (with_reducible refine Kd.C_drew ?_))); (case side2 => exact HC0.out); rintro e w41 ⟨rfl, hb⟩; refine ⟨_, rfl, ?_⟩; have n0_ := Aside0.mk (below_step (by repeat (first | (with_reducible first | exact HB.out | apply below_alloc | apply pw_below_drewN | apply below_drew1) | exact HB.out)) hb); clear HB; have HB := n0_; clear n0_; (try clear hb); (try clear hb2); (try clear hk); (try clear hi)))
 go_ret
 exact ⟨by first | rfl | (simp [errW_none, errW_some] <;> rfl) | (simp [*, errW_none, errW_some] <;> rfl), by repeat (first | (with_reducible first | exact HB.out | apply below_alloc | apply pw_below_drewN | apply below_drew1) | exact HB.out)⟩}}
 {
 rw [if_neg c4] at H
 exact absurd H (by simp)}}
 {
 rw [if_neg c3] at H
 exact absurd H (by simp)}

end Go.Proofs.Ytgmbgpjebpgpkaa.QFnExactCompactEvents
