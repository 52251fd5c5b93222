-- written by a program of this session, on the lines of the kit's print
import Derived.Test.YtgmbgpjebpgpkaaQFnExactRootOfx0
import Derived.Test.YtgmbgpjebpgpkaaQFnExactRootOfx2
import Derived.Test.YtgmbgpjebpgpkaaQFnExactRootOfx4
namespace Go.Proofs.Ytgmbgpjebpgpkaa.QFnExactRootOf
open Go.RowKit Go.Proofs.YtgmbgpjebpgpkaaW.PrintWords Go.Proofs.YtgmbgpjebpgpkaaW.PrintLast Go.Proofs.YtgmbgpjebpgpkaaW.PrintMore
attribute [local go_sem] max2_int min2_int max_two min_two max_three min_three max_four min_four   -- for this text's walks alone
set_option linter.unusedVariables false
set_option linter.unusedSimpArgs false

theorem cellS38_0 {W : World} {g : Nat} {A1 : Option Addr} {c1 : Nat} {f0 : Int} {f1 : List (S81)} (h : W.heap[g]? = some (.cells #[.int .i64 f0, .slice A1 f1.length c1] 38 (0, 0))) : W.cell? ⟨g, 0, none⟩ = some (.int .i64 f0) := (blk_cell h 0).trans rfl
theorem cellS38_1 {W : World} {g : Nat} {A1 : Option Addr} {c1 : Nat} {f0 : Int} {f1 : List (S81)} (h : W.heap[g]? = some (.cells #[.int .i64 f0, .slice A1 f1.length c1] 38 (0, 0))) : W.cell? ⟨g, 1, none⟩ = some (.slice A1 f1.length c1) := (blk_cell h 1).trans rfl
/-! ### spec_l03Is: function 36 -/
abbrev spec_l03Is.T : Bool := true
abbrev spec_l03Is.F : Bool := false
theorem spec_l03Is.s1_ {P : Prop} (h : P := by first | rfl | (simp; done) | (simp [*]; done)) : P := h
theorem spec_l03Is.s2_ {P : Prop} (h : P := by kernel_rfl) : P := h
theorem spec_l03Is.s3_ {P : Prop} (h : P := by (try simp only [List.map_toArray, List.map_cons, List.map_nil]); first | done | rfl | (simp only [List.length_drop, List.length_take]; rfl)) : P := h
abbrev spec_l03Is.m0_ : Array Bool := #[F,F,F,F,F,F,F,F,F,F,F,F,F,F]
abbrev spec_l03Is.m1_ : Array Bool := #[T,F,F,F,F,F,F,F,F,F,F,F,F,F]
abbrev spec_l03Is.m2_ : Array Bool := #[T,T,F,F,F,F,F,F,F,F,F,F,F,F]
abbrev spec_l03Is.m3_ : Array Bool := #[T,T,T,F,F,F,F,F,F,F,F,F,F,F]
abbrev spec_l03Is.m4_ : Array Bool := #[T,T,T,T,F,F,F,F,F,F,F,F,F,F]
abbrev spec_l03Is.m5_ : Array Bool := #[T,T,T,T,T,F,F,F,F,F,F,F,F,F]
abbrev spec_l03Is.m6_ : Array Bool := #[T,T,T,T,T,T,F,F,F,F,F,F,F,F]
abbrev spec_l03Is.m7_ : Array Bool := #[T,T,T,T,T,T,T,F,F,F,F,F,F,F]
abbrev spec_l03Is.m8_ : Array Bool := #[T,T,T,T,T,T,T,F,T,F,F,F,F,F]
abbrev spec_l03Is.m9_ : Array Bool := #[T,T,T,T,T,T,T,F,T,T,F,F,F,F]
abbrev spec_l03Is.m10_ : Array Bool := #[T,T,T,T,T,T,T,F,T,T,T,F,F,F]
abbrev spec_l03Is.m11_ : Array Bool := #[T,T,T,T,T,T,T,T,T,T,T,F,F,F]
abbrev spec_l03Is.m12_ : Array Bool := #[T,T,T,T,T,T,T,T,T,T,T,T,F,F]
abbrev spec_l03Is.m13_ : Array Bool := #[T,T,T,T,T,T,T,T,T,T,T,T,T,F]
abbrev spec_l03Is.m14_ : Array Bool := #[T,T,T,T,T,T,T,T,T,T,T,T,T,T]
abbrev spec_l03Is.m15_ : Array Bool := #[F,F,F,F,F,F,F,F,F,F,F,F,F,F,F,F,F,F,F,F,F,F,F,F,F,F,F,F,F,F,F,F,F,F]
abbrev spec_l03Is.m16_ : Array Bool := #[T,F,F,F,F,F,F,F,F,F,F,F,F,F,F,F,F,F,F,F,F,F,F,F,F,F,F,F,F,F,F,F,F,F]
abbrev spec_l03Is.m17_ : Array Bool := #[T,T,F,F,F,F,F,F,F,F,F,F,F,F,F,F,F,F,F,F,F,F,F,F,F,F,F,F,F,F,F,F,F,F]
abbrev spec_l03Is.m18_ : Array Bool := #[T,T,T,F,F,F,F,F,F,F,F,F,F,F,F,F,F,F,F,F,F,F,F,F,F,F,F,F,F,F,F,F,F,F]
abbrev spec_l03Is.m19_ : Array Bool := #[T,T,T,T,F,F,F,F,F,F,F,F,F,F,F,F,F,F,F,F,F,F,F,F,F,F,F,F,F,F,F,F,F,F]
abbrev spec_l03Is.m20_ : Array Bool := #[T,T,T,T,T,F,F,F,F,F,F,F,F,F,F,F,F,F,F,F,F,F,F,F,F,F,F,F,F,F,F,F,F,F]
abbrev spec_l03Is.m21_ : Array Bool := #[T,T,T,T,T,T,F,F,F,F,F,F,F,F,F,F,F,F,F,F,F,F,F,F,F,F,F,F,F,F,F,F,F,F]
abbrev spec_l03Is.m22_ : Array Bool := #[T,T,T,T,T,T,F,T,F,F,F,F,F,F,F,F,F,F,F,F,F,F,F,F,F,F,F,F,F,F,F,F,F,F]
abbrev spec_l03Is.m23_ : Array Bool := #[T,T,T,T,T,T,F,T,T,F,F,F,F,F,F,F,F,F,F,F,F,F,F,F,F,F,F,F,F,F,F,F,F,F]
abbrev spec_l03Is.m24_ : Array Bool := #[T,T,T,T,T,T,F,T,T,F,F,F,T,F,F,F,F,F,F,F,F,F,F,F,F,F,F,F,F,F,F,F,F,F]
abbrev spec_l03Is.m25_ : Array Bool := #[T,T,T,T,T,T,F,T,T,F,F,F,T,T,F,F,F,F,F,F,F,F,F,F,F,F,F,F,F,F,F,F,F,F]
abbrev spec_l03Is.m26_ : Array Bool := #[T,T,T,T,T,T,F,T,T,F,F,F,T,T,T,F,F,F,F,F,F,F,F,F,F,F,F,F,F,F,F,F,F,F]
abbrev spec_l03Is.m27_ : Array Bool := #[T,T,T,T,T,T,T,T,T,F,F,F,T,T,T,F,F,F,F,F,F,F,F,F,F,F,F,F,F,F,F,F,F,F]
abbrev spec_l03Is.m28_ : Array Bool := #[T,T,T,T,T,T,T,T,T,T,F,F,T,T,T,F,F,F,F,F,F,F,F,F,F,F,F,F,F,F,F,F,F,F]
abbrev spec_l03Is.m29_ : Array Bool := #[T,T,T,T,T,T,T,T,T,T,T,F,T,T,T,F,F,F,F,F,F,F,F,F,F,F,F,F,F,F,F,F,F,F]
abbrev spec_l03Is.m30_ : Array Bool := #[T,T,T,T,T,T,T,T,T,T,T,T,T,T,T,F,F,F,F,F,F,F,F,F,F,F,F,F,F,F,F,F,F,F]
abbrev spec_l03Is.m31_ : Array Bool := #[T,T,T,T,T,T,T,T,T,T,T,T,T,T,T,T,F,F,F,F,F,F,F,F,F,F,F,F,F,F,F,F,F,F]
abbrev spec_l03Is.m32_ : Array Bool := #[T,T,T,T,T,T,T,T,T,T,T,T,T,T,T,T,T,F,F,F,F,F,F,F,F,F,F,F,F,F,F,F,F,F]
abbrev spec_l03Is.m33_ : Array Bool := #[T,T,T,T,T,T,T,T,T,T,T,T,T,T,T,T,T,T,F,F,F,F,F,F,F,F,F,F,F,F,F,F,F,F]
abbrev spec_l03Is.m34_ : Array Bool := #[T,T,T,T,T,T,T,T,T,T,T,T,T,T,T,T,T,T,T,F,F,F,F,F,F,F,F,F,F,F,F,F,F,F]
abbrev spec_l03Is.m35_ : Array Bool := #[T,T,T,T,T,T,T,T,T,T,T,T,T,T,T,T,T,T,T,T,F,F,F,F,F,F,F,F,F,F,F,F,F,F]
abbrev spec_l03Is.m36_ : Array Bool := #[T,T,T,T,T,T,T,T,T,T,T,T,T,T,T,T,T,T,T,T,T,F,F,F,F,F,F,F,F,F,F,F,F,F]
abbrev spec_l03Is.m37_ : Array Bool := #[T,T,T,T,T,T,T,T,T,T,T,T,T,T,T,T,T,T,T,T,T,T,F,F,F,F,F,F,F,F,F,F,F,F]
abbrev spec_l03Is.m38_ : Array Bool := #[T,T,T,T,T,T,T,T,T,T,T,T,T,T,T,T,T,T,T,T,T,T,T,F,F,F,F,F,F,F,F,F,F,F]
abbrev spec_l03Is.m39_ : Array Bool := #[T,T,T,T,T,T,T,T,T,T,T,T,T,T,T,T,T,T,T,T,T,T,T,T,F,F,F,F,F,F,F,F,F,F]
abbrev spec_l03Is.m40_ : Array Bool := #[T,T,T,T,T,T,T,T,T,T,T,T,T,T,T,T,T,T,T,T,T,T,T,T,T,F,F,F,F,F,F,F,F,F]
abbrev spec_l03Is.m41_ : Array Bool := #[T,T,T,T,T,T,T,T,T,T,T,T,T,T,T,T,T,T,T,T,T,T,T,T,T,T,F,F,F,F,F,F,F,F]
abbrev spec_l03Is.m42_ : Array Bool := #[T,T,T,T,T,T,T,T,T,T,T,T,T,T,T,T,T,T,T,T,T,T,T,T,T,T,T,F,F,F,F,F,F,F]
abbrev spec_l03Is.m43_ : Array Bool := #[T,T,T,T,T,T,T,T,T,T,T,T,T,T,T,T,T,T,T,T,T,T,T,T,T,T,T,T,F,F,F,F,F,F]
abbrev spec_l03Is.m44_ : Array Bool := #[T,T,T,T,T,T,T,T,T,T,T,T,T,T,T,T,T,T,T,T,T,T,T,T,T,T,T,T,T,F,F,F,F,F]
abbrev spec_l03Is.m45_ : Array Bool := #[T,T,T,T,T,T,T,T,T,T,T,T,T,T,T,T,T,T,T,T,T,T,T,T,T,T,T,T,T,T,F,F,F,F]
abbrev spec_l03Is.m46_ : Array Bool := #[T,T,T,T,T,T,T,T,T,T,T,T,T,T,T,T,T,T,T,T,T,T,T,T,T,T,T,T,T,T,T,F,F,F]
abbrev spec_l03Is.m47_ : Array Bool := #[T,T,T,T,T,T,T,T,T,T,T,T,T,T,T,T,T,T,T,T,T,T,T,T,T,T,T,T,T,T,T,T,F,F]
abbrev spec_l03Is.m48_ : Array Bool := #[T,T,T,T,T,T,T,T,T,T,T,T,T,T,T,T,T,T,T,T,T,T,T,T,T,T,T,T,T,T,T,T,T,F]
abbrev spec_l03Is.m49_ : Array Bool := #[T,T,T,T,T,T,T,T,T,T,T,T,T,T,T,T,T,T,T,T,T,T,T,T,T,T,T,T,T,T,T,T,T,T]
abbrev spec_l03Is.m50_ : Array Bool := #[T,T,T,T,T,T,T,T,T,T,T,T,T,T,T,T,T,T,T,T,T,F,T,F,F,F,F,F,F,F,F,F,F,F]
abbrev spec_l03Is.m51_ : Array Bool := #[T,T,T,T,T,T,T,T,T,T,T,T,T,T,T,T,T,T,T,T,T,F,T,T,F,F,F,F,F,F,F,F,F,F]
abbrev spec_l03Is.m52_ : Array Bool := #[T,T,T,T,T,T,T,T,T,T,T,T,T,T,T,T,T,T,T,T,T,F,T,T,F,F,F,T,F,F,F,F,F,F]
abbrev spec_l03Is.m53_ : Array Bool := #[T,T,T,T,T,T,T,T,T,T,T,T,T,T,T,T,T,T,T,T,T,F,T,T,F,F,F,T,T,F,F,F,F,F]
abbrev spec_l03Is.m54_ : Array Bool := #[T,T,T,T,T,T,T,T,T,T,T,T,T,T,T,T,T,T,T,T,T,F,T,T,F,F,F,T,T,T,F,F,F,F]
abbrev spec_l03Is.m55_ : Array Bool := #[T,T,T,T,T,T,T,T,T,T,T,T,T,T,T,T,T,T,T,T,T,T,T,T,F,F,F,T,T,T,F,F,F,F]
abbrev spec_l03Is.m56_ : Array Bool := #[T,T,T,T,T,T,T,T,T,T,T,T,T,T,T,T,T,T,T,T,T,T,T,T,T,F,F,T,T,T,F,F,F,F]
abbrev spec_l03Is.m57_ : Array Bool := #[T,T,T,T,T,T,T,T,T,T,T,T,T,T,T,T,T,T,T,T,T,T,T,T,T,T,F,T,T,T,F,F,F,F]
theorem spec_l03Is.p1_ {P : Prop} (h : P := by simp only [Act.put, List.setIfInBounds_toArray, List.set_cons_zero, List.set_cons_succ, i64_w, i32_w]; rfl) : P := h
theorem spec_l03Is.b1_ {P Q : Prop} (q : Q) (h : Q → P := by intro q_; (with_reducible repeat (first | refine blk_drewN ?_ _ | refine blk_drew ?_ | refine blk_alloc ?_ _)); exact q_) : P := h q
theorem spec_l03Is.pu_ {P : Program} {md : Region.Mode} {ops : Array Oper} {Q : Exit → Act → World → Prop} {S : World → Prop} {ds : List Nat} {fuel : Nat} {l : Array Bool} {a : Act} {w : World} {oi : Oper} {a' : Act} {v : Value} (i N : Nat) (l' : Array Bool) (hc : anyB md ops l l' i = true) (h : wpAnyLast P md ops Q S ds fuel l' a' w) (hi : ops[i]? = some oi := by rfl) (hN : oi.dst = some N := by rfl) (hQ : ∀ c a w, Q (.panic c) (a.put oi.dst v) w → Q (.panic c) a w := by exact fun _ _ _ h => h) (hy : Yields P ops oi v a := by exact Or.inl ⟨by rfl, by intro w'; go_simp; with_reducible rfl⟩) (ha : a.put (some N) v = a' := by simp only [Act.put, List.setIfInBounds_toArray, List.set_cons_zero, List.set_cons_succ, i64_w, i32_w]; rfl) : wpAnyLast P md ops Q S ds (fuel + 1) l a w := pure_ l' hi hN hc hQ hy ha h
theorem spec_l03Is.pn_ {P : Program} {md : Region.Mode} {ops : Array Oper} {Q : Exit → Act → World → Prop} {S : World → Prop} {ds : List Nat} {fuel : Nat} {l : Array Bool} {a : Act} {w : World} {oi : Oper} {a' : Act} (i N : Nat) (l' : Array Bool) (hc : anyB md ops l l' i = true) (h : wpAnyLast P md ops Q S ds fuel l' a' w) (hi : ops[i]? = some oi := by rfl) (hN : oi.dst = some N := by rfl) (hQ : ∀ c a w, Q (.panic c) (a.put oi.dst undef) w → Q (.panic c) a w := by exact fun _ _ _ h => h) (hy : Yields P ops oi undef a := by exact Or.inr ⟨by rfl, rfl⟩) (ha : a.put (some N) undef = a' := by simp only [Act.put, List.setIfInBounds_toArray, List.set_cons_zero, List.set_cons_succ, i64_w, i32_w]; rfl) : wpAnyLast P md ops Q S ds (fuel + 1) l a w := pure_ l' hi hN hc hQ hy ha h
def spec_l03Is.l0 : Nat → Int → Int → Int → List (S81) → Option (Bool)
  | 0, _, _, _, _ => none
  | k + 1, x23, x24, x1000, x1001 => if x24 < x23 then (if 0 ≤ x24 then (if x24 < (x1001.length : Int) then ((spec_l03Message_v0.f k x1001 x24).bind fun t170 => (if t170 = true then (if ((rd_T81 x1001 x24).f0) ≥ x1000 then (some false) else (if x24 > 0 then (if 0 ≤ (wrap64 (x24 - 1)) then (if (wrap64 (x24 - 1)) < (x1001.length : Int) then (if ((rd_T81 x1001 (wrap64 (x24 - 1))).f0) ≥ ((rd_T81 x1001 x24).f0) then (some false) else (if ((rd_T81 x1001 (wrap64 (x24 - 1))).f2) > ((rd_T81 x1001 x24).f2) then (some false) else (spec_l03Is.l0 k x23 (wrap64 (x24 + 1)) x1000 x1001))) else (none)) else (none)) else (spec_l03Is.l0 k x23 (wrap64 (x24 + 1)) x1000 x1001))) else (some false))) else (none)) else (none)) else (some true)
def spec_l03Is.f (k : Nat) (a0_0 : Int) (l0_1 : List (S81)) : Option (Bool) := if (l0_1.length : Int) > 40 then (some false) else ((spec_l00In.f a0_0 1 1000000000).bind fun t168 => (if t168 = true then (spec_l03Is.l0 k (l0_1.length : Int) 0 a0_0 l0_1) else (some false)))
theorem spec_l03Is.mono_l : ∀ k, (∀ y0 y1 y2 y3, LeO (spec_l03Is.l0 k y0 y1 y2 y3) (spec_l03Is.l0 (k + 1) y0 y1 y2 y3))
  | 0 => fun _ _ _ _ r h => by simp [spec_l03Is.l0] at h
  | k + 1 => by
    have ih0 := spec_l03Is.mono_l k
    · intro y0 y1 y2 y3
      unfold spec_l03Is.l0
      repeat' first
      | (with_reducible exact ih0 _ _ _ _)
      | (with_reducible exact spec_l03Message_v0.mono _ _ _)
      | (with_reducible exact LeO.refl _)
      | (with_reducible exact LeO.none _)
      | (with_reducible refine LeO.ite ?_ ?_)
      | (with_reducible refine LeO.bind ?_ (fun _ => ?_))
      | exact ih0 _ _ _ _
      | exact spec_l03Message_v0.mono _ _ _
      | exact LeO.none _
      | refine LeO.ite ?_ ?_
      | refine LeO.bind ?_ (fun _ => ?_)
theorem spec_l03Is.mono : ∀ a0 a1 k, LeO (spec_l03Is.f k a0 a1) (spec_l03Is.f (k + 1) a0 a1) := by
  intro a0 a1 k
  have ih0 := spec_l03Is.mono_l k
  unfold spec_l03Is.f
  repeat' first
      | (with_reducible exact ih0 _ _ _ _)
      | (with_reducible exact spec_l03Message_v0.mono _ _ _)
      | (with_reducible exact LeO.refl _)
      | (with_reducible exact LeO.none _)
      | (with_reducible refine LeO.ite ?_ ?_)
      | (with_reducible refine LeO.bind ?_ (fun _ => ?_))
      | exact ih0 _ _ _ _
      | exact spec_l03Message_v0.mono _ _ _
      | exact LeO.none _
      | refine LeO.ite ?_ ?_
      | refine LeO.bind ?_ (fun _ => ?_)
def spec_l03Is.T7 : Bool × List (List Nat × List Nat) := (true, [([], []), ([0], [0]), ([1], [1]), ([2, 1], [2]), ([3], [3]), ([4, 3], [3, 4]), ([5, 3], [3, 5]), ([6, 3], [3, 6]), ([3], [3]), ([8, 3], [3, 8]), ([9, 3], [3, 9]), ([10, 3], [3, 10]), ([7, 11, 3], [3, 7, 11]), ([3, 12], [3, 12])])
def spec_l03Is.B7 : List Nat := [0, 1, 3, 7, 15, 31, 63, 127, 15, 271, 783, 1807, 4095, 8191]
theorem spec_l03Is.tab7 : rtab .any (opsOf Try.f36 7) = spec_l03Is.T7 := by kernel_rfl
theorem spec_l03Is.bits7 : waitsOk spec_l03Is.T7.2 spec_l03Is.B7 = true := by kernel_rfl
def spec_l03Is.T9 : Bool × List (List Nat × List Nat) := (true, [([], []), ([0], [0]), ([1], [1]), ([2], [2]), ([3, 2], [2, 3]), ([4, 2], [2, 4]), ([5, 2], [2, 5]), ([2], [2]), ([7, 2], [2, 7]), ([6, 8, 2], [2, 6, 8]), ([9, 2], [2, 9]), ([10, 2], [2, 10]), ([2], [2]), ([12, 2], [2, 12]), ([13, 2], [2, 13]), ([14, 2], [2, 14]), ([11, 15, 2], [2, 11, 15]), ([16, 2, 2], [2, 16]), ([17], [17]), ([18, 17], [17, 18]), ([19, 17], [17, 19]), ([20, 17], [17, 20]), ([17], [17]), ([22, 17], [17, 22]), ([21, 23, 17], [17, 21, 23]), ([24, 17], [17, 24]), ([25, 17], [17, 25]), ([17], [17]), ([27, 17], [17, 27]), ([28, 17], [17, 28]), ([29, 17], [17, 29]), ([26, 30, 17], [17, 26, 30]), ([17, 31, 2], [2, 17, 31]), ([2, 32], [2, 32])])
def spec_l03Is.B9 : List Nat := [0, 1, 3, 7, 15, 31, 63, 7, 135, 511, 1023, 2047, 7, 4103, 12295, 28679, 65535, 131071, 262143, 524287, 1048575, 2097151, 262143, 4456447, 16777215, 33554431, 67108863, 262143, 134479871, 402915327, 939786239, 2147483647, 4294967295, 8589934591]
theorem spec_l03Is.tab9 : rtab .any (opsOf Try.f36 9) = spec_l03Is.T9 := by kernel_rfl
theorem spec_l03Is.bits9 : waitsOk spec_l03Is.T9.2 spec_l03Is.B9 = true := by kernel_rfl
set_option maxHeartbeats 8000000 in
set_option maxRecDepth 100000 in
theorem spec_l03Is.calls (k : Nat) (g0_ : Nat) (a0_0 : Int) (A0_1 : Option Addr) (c0_1 : Nat) (l0_1 : List (S81)) (r : Bool) (w : World) (hbk0 : w.heap[g0_]? = some (.cells #[.int .i64 a0_0, .slice A0_1 l0_1.length c0_1] 38 (0, 0))) (hr0_1 : Kd.C k81 w A0_1 l0_1.length l0_1) (hc0_1 : l0_1.length ≤ c0_1) (h : spec_l03Is.f k a0_0 l0_1 = some r) :
    Calls Try.prog 36 #[.pointer (some ⟨g0_, 0, none⟩)] w fun e w' => e = .returned (.bool r) ∧ Below w.heap.size w w' := by
 have HR0_1 := Aside0.mk hr0_1
 have HC0_1 := Aside0.mk hc0_1
 clear hr0_1 hc0_1
 have BK0 := Aside0.mk hbk0
 clear hbk0
 have HB := Aside0.mk (Below.refl w.heap.size w)
 have H : (if (l0_1.length : Int) > 40 then (some false) else ((spec_l00In.f a0_0 1 1000000000).bind fun t168 => (if t168 = true then (spec_l03Is.l0 k (l0_1.length : Int) 0 a0_0 l0_1) else (some false)))) = some r := h
 clear h
 by_cases c2 : (l0_1.length : Int) > 40
 {
 rw [if_pos c2] at H
 have c2b0 : decide (40 < (l0_1.length : Int)) = true := decide_eq_true c2
 have c2b1 : decide (40 < l0_1.length) = true := decide_eq_true (by omega)
 clear c2
 obtain rfl := Option.some.inj H
 have hcz3_0 : w.cell? ⟨g0_, 0, none⟩ = some (.int .i64 a0_0) := (blk_cell BK0.out 0).trans rfl
 have hcz3_1 : w.cell? ⟨g0_, 1, none⟩ = some (.slice A0_1 l0_1.length c0_1) := (blk_cell BK0.out 1).trans rfl
 have hfz3_0 := blk_frozen BK0.out 0
 have hfz3_1 := blk_frozen BK0.out 1
 go_enter Try.func36, Try.ntmps36
 go_wp2
 go_ret
 exact ⟨by first | rfl | (simp [errW_none, errW_some] <;> rfl) | (simp [*, errW_none, errW_some] <;> rfl), by repeat (first | (with_reducible first | exact HB.out | apply below_alloc | apply pw_below_drewN | apply below_drew1 | refine below_set ?_ GE0.out) | exact HB.out)⟩}
 {
 rw [if_neg c2] at H
 have c2b0 : decide (40 < (l0_1.length : Int)) = false := decide_eq_false c2
 have c2b1 : decide (40 < l0_1.length) = false := decide_eq_false (by omega)
 clear c2
 replace H := Option.bind_eq_some_iff.mp H
 obtain ⟨t168, A40, H⟩ := H
 replace H : (if t168 = true then (spec_l03Is.l0 k (l0_1.length : Int) 0 a0_0 l0_1) else (some false)) = some r := H
 have A4 := Aside0.mk A40
 clear A40
 by_cases c5 : t168 = true
 {
 subst c5
 have H1 : (spec_l03Is.l0 k (l0_1.length : Int) 0 a0_0 l0_1) = some r := by rw [if_pos rfl] at H; exact H
 clear H
 have H := H1
 clear H1
 have H' := Aside0.mk H
 clear H
 have hcz6_0 : w.cell? ⟨g0_, 0, none⟩ = some (.int .i64 a0_0) := (blk_cell BK0.out 0).trans rfl
 have hcz6_1 : w.cell? ⟨g0_, 1, none⟩ = some (.slice A0_1 l0_1.length c0_1) := (blk_cell BK0.out 1).trans rfl
 have hfz6_0 := blk_frozen BK0.out 0
 have hfz6_1 := blk_frozen BK0.out 1
 go_enter Try.func36, Try.ntmps36
 go_wp2_with (first | (go_at_call 52; (with_reducible refine (spec_l00In.calls a0_0 1 1000000000 true _ A4.out).mono ?_); rintro e w' ⟨rfl, ⟨nd, rfl⟩⟩))
 go_loopg [24] k (fun kq v24 w' => ∃ (x24_1 : Int), v24 = .int .i64 x24_1 ∧ Aside0 (spec_l03Is.l0 kq (l0_1.length : Int) x24_1 a0_0 l0_1 = some r) ∧ Aside0 (kq ≤ k) ∧ Aside0 (w'.heap[g0_]? = some (.cells #[.int .i64 a0_0, (.slice A0_1 l0_1.length c0_1)] 38 (0, 0))) ∧ Aside0 (Below w.heap.size w w'))
 case atStart => exact ⟨(0), s1_, H', ⟨Nat.le_refl _⟩, ⟨b1_ BK0.out⟩, ⟨by repeat (first | (with_reducible first | exact HB.out | apply below_alloc | apply pw_below_drewN | apply below_drew1 | refine below_set ?_ GE0.out) | exact HB.out)⟩⟩
 case round =>
  skip
  {
 clear H'
 try clear c2
 try clear c2b0
 try clear c2b1
 try clear p2
 try clear c3
 try clear c5
 try clear hcz3_0
 try clear hcz3_1
 try clear hcz6_0
 try clear hcz6_1
 try clear hfz3_0
 try clear hfz3_1
 try clear hfz6_0
 try clear hfz6_1
 obtain ⟨x24_1, rfl, HA, HK1, BK0, HB⟩ := hrel
 cases gk with
 | zero => exact absurd HA.out (by simp [spec_l03Is.l0])
 | succ k1 =>
  skip
  {
 have H := HA.out
 clear HA
 simp only [spec_l03Is.l0] at H
 by_cases c7 : x24_1 < (l0_1.length : Int)
 {
 rw [if_pos c7] at H
 have c7b0 : decide (x24_1 < (l0_1.length : Int)) = true := decide_eq_true c7
 clear c7
 by_cases c8 : 0 ≤ x24_1
 {
 rw [if_pos c8] at H
 have c8b0 : decide (0 ≤ x24_1) = true := decide_eq_true c8
 clear c8
 by_cases c9 : x24_1 < (l0_1.length : Int)
 {
 rw [if_pos c9] at H
 have c9b0 : decide (x24_1 < (l0_1.length : Int)) = true := decide_eq_true c9
 clear c9
 replace H := Option.bind_eq_some_iff.mp H
 obtain ⟨t170, A100, H⟩ := H
 replace H : (if t170 = true then (if ((rd_T81 l0_1 x24_1).f0) ≥ a0_0 then (some false) else (if x24_1 > 0 then (if 0 ≤ (wrap64 (x24_1 - 1)) then (if (wrap64 (x24_1 - 1)) < (l0_1.length : Int) then (if ((rd_T81 l0_1 (wrap64 (x24_1 - 1))).f0) ≥ ((rd_T81 l0_1 x24_1).f0) then (some false) else (if ((rd_T81 l0_1 (wrap64 (x24_1 - 1))).f2) > ((rd_T81 l0_1 x24_1).f2) then (some false) else (spec_l03Is.l0 k1 (l0_1.length : Int) (wrap64 (x24_1 + 1)) a0_0 l0_1))) else (none)) else (none)) else (spec_l03Is.l0 k1 (l0_1.length : Int) (wrap64 (x24_1 + 1)) a0_0 l0_1))) else (some false)) = some r := H
 have A10 := Aside0.mk A100
 clear A100
 by_cases c11 : t170 = true
 {
 subst c11
 have H1 : (if ((rd_T81 l0_1 x24_1).f0) ≥ a0_0 then (some false) else (if x24_1 > 0 then (if 0 ≤ (wrap64 (x24_1 - 1)) then (if (wrap64 (x24_1 - 1)) < (l0_1.length : Int) then (if ((rd_T81 l0_1 (wrap64 (x24_1 - 1))).f0) ≥ ((rd_T81 l0_1 x24_1).f0) then (some false) else (if ((rd_T81 l0_1 (wrap64 (x24_1 - 1))).f2) > ((rd_T81 l0_1 x24_1).f2) then (some false) else (spec_l03Is.l0 k1 (l0_1.length : Int) (wrap64 (x24_1 + 1)) a0_0 l0_1))) else (none)) else (none)) else (spec_l03Is.l0 k1 (l0_1.length : Int) (wrap64 (x24_1 + 1)) a0_0 l0_1))) = some r := by rw [if_pos rfl] at H; exact H
 clear H
 have H := H1
 clear H1
 by_cases c12 : ((rd_T81 l0_1 x24_1).f0) ≥ a0_0
 {
 rw [if_pos c12] at H
 have c12b0 : decide (a0_0 ≤ ((rd_T81 l0_1 x24_1).f0)) = true := decide_eq_true c12
 clear c12
 obtain rfl := Option.some.inj H
 have hcz13_0 : wr.cell? ⟨g0_, 0, none⟩ = some (.int .i64 a0_0) := (blk_cell BK0.out 0).trans rfl
 have hcz13_1 : wr.cell? ⟨g0_, 1, none⟩ = some (.slice A0_1 l0_1.length c0_1) := (blk_cell BK0.out 1).trans rfl
 have hfz13_0 := blk_frozen BK0.out 0
 have hfz13_1 := blk_frozen BK0.out 1
 have p169 : 0 ≤ (x24_1 : Int) := of_decide_eq_true (by first | (with_reducible assumption) | assumption)
 have q169 : x24_1 < (l0_1.length : Int) := of_decide_eq_true (by first | (with_reducible assumption) | assumption)
 obtain ⟨ad169, A169_7, c169_7, e169, hx169_0, hx169_1, hx169_2, hx169_3, hx169_4, hx169_5, hx169_6, hx169_7, hl169_7, hi169_7⟩ := at_T81 HR0_1.out x24_1 p169 q169
 cases e169
 replace hx169_0 := (HB.out.cell (World.block_lt_of_cell? w _ hx169_0)).trans hx169_0
 replace hx169_1 := (HB.out.cell (World.block_lt_of_cell? w _ hx169_1)).trans hx169_1
 replace hx169_2 := (HB.out.cell (World.block_lt_of_cell? w _ hx169_2)).trans hx169_2
 replace hx169_3 := (HB.out.cell (World.block_lt_of_cell? w _ hx169_3)).trans hx169_3
 replace hx169_4 := (HB.out.cell (World.block_lt_of_cell? w _ hx169_4)).trans hx169_4
 replace hx169_5 := (HB.out.cell (World.block_lt_of_cell? w _ hx169_5)).trans hx169_5
 replace hx169_6 := (HB.out.cell (World.block_lt_of_cell? w _ hx169_6)).trans hx169_6
 replace hx169_7 := (HB.out.cell (World.block_lt_of_cell? w _ hx169_7)).trans hx169_7
 have HR169_7 := Aside0.mk hi169_7
 have HC169_7 := Aside0.mk hl169_7
 clear hi169_7 hl169_7
 replace p169 := eq_true p169
 replace q169 := eq_true q169
 try go_wp2
 have n0_ := Aside0.mk (blk_drew BK0.out)
 have n1_ := Aside0.mk (below_drew1 HB.out)
 clear BK0
 clear HB
 have BK0 := n0_
 have HB := n1_
 clear n0_ n1_
 have p171 : 0 ≤ (x24_1 : Int) := of_decide_eq_true (by first | (with_reducible assumption) | assumption)
 have q171 : x24_1 < (l0_1.length : Int) := of_decide_eq_true (by first | (with_reducible assumption) | assumption)
 obtain ⟨ad171, A171_7, c171_7, e171, hx171_0, hx171_1, hx171_2, hx171_3, hx171_4, hx171_5, hx171_6, hx171_7, hl171_7, hi171_7⟩ := at_T81 HR0_1.out x24_1 p171 q171
 have hw171_7 := hx171_7
 have hw171_6 := hx171_6
 have hw171_5 := hx171_5
 have hw171_4 := hx171_4
 have hw171_3 := hx171_3
 have hw171_2 := hx171_2
 have hw171_1 := hx171_1
 have hw171_0 := hx171_0
 obtain rfl : ad169 = ad171 := (by injection e171)
 replace hx171_0 := (HB.out.cell (World.block_lt_of_cell? w _ hx171_0)).trans hx171_0
 replace hx171_1 := (HB.out.cell (World.block_lt_of_cell? w _ hx171_1)).trans hx171_1
 replace hx171_2 := (HB.out.cell (World.block_lt_of_cell? w _ hx171_2)).trans hx171_2
 replace hx171_3 := (HB.out.cell (World.block_lt_of_cell? w _ hx171_3)).trans hx171_3
 replace hx171_4 := (HB.out.cell (World.block_lt_of_cell? w _ hx171_4)).trans hx171_4
 replace hx171_5 := (HB.out.cell (World.block_lt_of_cell? w _ hx171_5)).trans hx171_5
 replace hx171_6 := (HB.out.cell (World.block_lt_of_cell? w _ hx171_6)).trans hx171_6
 replace hx171_7 := (HB.out.cell (World.block_lt_of_cell? w _ hx171_7)).trans hx171_7
 have HR171_7 := Aside0.mk hi171_7
 have HC171_7 := Aside0.mk hl171_7
 clear hi171_7 hl171_7
 replace p171 := eq_true p171
 replace q171 := eq_true q171
 refine start_ (n := 14) (S := fun w' => w'.cell? ⟨g0_, 0, none⟩ = some (.int .i64 a0_0) ∧ w'.cell? ⟨g0_, 1, none⟩ = some (.slice (some ad169) l0_1.length c0_1) ∧ w'.cell? (ad169.add ((x24_1).toNat * 8)) = some (.int .i64 ((rd_T81 l0_1 x24_1).f0)) ∧ w'.cell? ⟨(ad169.add ((x24_1).toNat * 8)).block, (ad169.add ((x24_1).toNat * 8)).off + 1, none⟩ = some (.int .i64 ((rd_T81 l0_1 x24_1).f1)) ∧ w'.cell? ⟨(ad169.add ((x24_1).toNat * 8)).block, (ad169.add ((x24_1).toNat * 8)).off + 2, none⟩ = some (.int .i64 ((rd_T81 l0_1 x24_1).f2)) ∧ w'.cell? ⟨(ad169.add ((x24_1).toNat * 8)).block, (ad169.add ((x24_1).toNat * 8)).off + 3, none⟩ = some (.string ((rd_T81 l0_1 x24_1).f3)) ∧ w'.cell? ⟨(ad169.add ((x24_1).toNat * 8)).block, (ad169.add ((x24_1).toNat * 8)).off + 4, none⟩ = some (.int .i64 ((rd_T81 l0_1 x24_1).f4)) ∧ w'.cell? ⟨(ad169.add ((x24_1).toNat * 8)).block, (ad169.add ((x24_1).toNat * 8)).off + 5, none⟩ = some (.bool ((rd_T81 l0_1 x24_1).f5)) ∧ w'.cell? ⟨(ad169.add ((x24_1).toNat * 8)).block, (ad169.add ((x24_1).toNat * 8)).off + 6, none⟩ = some (.int .i64 ((rd_T81 l0_1 x24_1).f6)) ∧ w'.cell? ⟨(ad169.add ((x24_1).toNat * 8)).block, (ad169.add ((x24_1).toNat * 8)).off + 7, none⟩ = some (.slice A171_7 ((rd_T81 l0_1 x24_1).f7).length c171_7)) (ds := []) m0_ s2_ rfl rfl ⟨(blk_cell BK0.out 0).trans rfl, (blk_cell BK0.out 1).trans rfl, ((HB.out.cell (World.block_lt_of_cell? w _ hw171_0)).trans hw171_0), ((HB.out.cell (World.block_lt_of_cell? w _ hw171_1)).trans hw171_1), ((HB.out.cell (World.block_lt_of_cell? w _ hw171_2)).trans hw171_2), ((HB.out.cell (World.block_lt_of_cell? w _ hw171_3)).trans hw171_3), ((HB.out.cell (World.block_lt_of_cell? w _ hw171_4)).trans hw171_4), ((HB.out.cell (World.block_lt_of_cell? w _ hw171_5)).trans hw171_5), ((HB.out.cell (World.block_lt_of_cell? w _ hw171_6)).trans hw171_6), ((HB.out.cell (World.block_lt_of_cell? w _ hw171_7)).trans hw171_7)⟩ (fun hHeld => ?_); refine with_tabW spec_l03Is.tab7 spec_l03Is.bits7 (fun HT_ HW_ => ?_)
 generalize wr.drew = w14 at BK0 HB HR171_7 hx171_0 hx171_1 hx171_2 hx171_3 hx171_4 hx171_5 hx171_6 hx171_7 hHeld ⊢
 refine pu_ 0 33 m1_ (any_of HT_.out s2_) ?_
 refine one_ (i := 1) (N := some 34) m2_ rfl rfl (one_of HT_.out s2_) (by decide) (fun K hK => ?_)
 refine goes_ Try.func57 s2_ rfl #[.pointer (some (ad169.add ((x24_1).toNat * 8)))] (by rfl) rfl rfl s3_ ?_
 with_reducible refine (spec_l03Message_v0.calls k1 ad169 c0_1 l0_1 x24_1 true _ ?side1 ?side2 A10.out).mono ?_
 (case side1 => repeat (first | exact (Kd.C_below HR0_1.out HB.out) | (with_reducible refine Kd.C_alloc ?_ _) | (with_reducible refine Kd.C_drewN ?_ _) | (with_reducible refine Kd.C_drew ?_)))
 (case side2 => exact HC0_1.out)
 rintro e w15 ⟨rfl, hb⟩
 refine ⟨_, rfl, ?_⟩
 have n0_ := Aside0.mk (blk_below (g := g0_) (o := .cells #[.int .i64 a0_0, .slice (some ad169) l0_1.length c0_1] 38 (0, 0)) (b1_ BK0.out) hb)
 have n1_ := Aside0.mk (below_step (by repeat (first | (with_reducible first | exact HB.out | apply below_alloc | apply pw_below_drewN | apply below_drew1 | refine below_set ?_ GE0.out) | exact HB.out)) hb)
 clear BK0
 clear HB
 have BK0 := n0_
 have HB := n1_
 clear n0_ n1_
 (try clear hb)
 (try clear hb2)
 (try clear hk)
 (try clear hi)
 refine hK.out _ _ ⟨(blk_cell BK0.out 0).trans rfl, (blk_cell BK0.out 1).trans rfl, ((HB.out.cell (World.block_lt_of_cell? w _ hw171_0)).trans hw171_0), ((HB.out.cell (World.block_lt_of_cell? w _ hw171_1)).trans hw171_1), ((HB.out.cell (World.block_lt_of_cell? w _ hw171_2)).trans hw171_2), ((HB.out.cell (World.block_lt_of_cell? w _ hw171_3)).trans hw171_3), ((HB.out.cell (World.block_lt_of_cell? w _ hw171_4)).trans hw171_4), ((HB.out.cell (World.block_lt_of_cell? w _ hw171_5)).trans hw171_5), ((HB.out.cell (World.block_lt_of_cell? w _ hw171_6)).trans hw171_6), ((HB.out.cell (World.block_lt_of_cell? w _ hw171_7)).trans hw171_7)⟩ (fun hHeld => ?_)
 clear hK K
 refine norm_ (a' := ?_) ?_ ?_
 rotate_left
 {
 show Act.put _ (some 34) _ = _
 simp only [Act.put, List.setIfInBounds_toArray, List.set_cons_zero, List.set_cons_succ, i64_w, i32_w]
 rfl}
 refine pu_ 2 35 m3_ (any_of HT_.out s2_) ?_
 refine pu_ 3 36 m4_ (any_of HT_.out s2_) ?_
 refine pu_ 4 37 m5_ (any_of HT_.out s2_) ?_
 refine pu_ 5 38 m6_ (any_of HT_.out s2_) ?_
 refine pu_ 6 39 m7_ (any_of HT_.out s2_) ?_
 refine pu_ 8 41 m8_ (any_of HT_.out s2_) ?_
 refine pu_ 9 42 m9_ (any_of HT_.out s2_) ?_
 refine pu_ 10 43 m10_ (any_of HT_.out s2_) ?_
 refine take_ (i := 7) (N := some 40) (v := ?_) (a' := ?_) m11_ rfl rfl (take_ofW HT_.out HW_.out s2_) (fun _ _ _ h => h) (Or.inl ⟨by rfl, ?_⟩) hHeld ?_ ?_
 rotate_left
 {
 rintro w' ⟨s0, s1, s2, s3, s4, s5, s6, s7, s8, s9⟩
 go_simp
 with_reducible rfl}
 rotate_left
 · exact p1_
 refine take_ (i := 11) (N := some 44) (v := ?_) (a' := ?_) m12_ rfl rfl (take_ofW HT_.out HW_.out s2_) (fun _ _ _ h => h) (Or.inl ⟨by rfl, ?_⟩) hHeld ?_ ?_
 rotate_left
 {
 rintro w' ⟨s0, s1, s2, s3, s4, s5, s6, s7, s8, s9⟩
 go_simp
 with_reducible rfl}
 rotate_left
 · exact p1_
 refine pu_ 12 45 m13_ (any_of HT_.out s2_) ?_
 refine pu_ 13 46 m14_ (any_of HT_.out s2_) ?_
 refine done_ (done_of HT_.out s2_) ?_
 try go_wp2
 go_ret
 exact ⟨by first | rfl | (simp [errW_none, errW_some] <;> rfl) | (simp [*, errW_none, errW_some] <;> rfl), by repeat (first | (with_reducible first | exact HB.out | apply below_alloc | apply pw_below_drewN | apply below_drew1 | refine below_set ?_ GE0.out) | exact HB.out)⟩}
 {
 rw [if_neg c12] at H
 have c12b0 : decide (a0_0 ≤ ((rd_T81 l0_1 x24_1).f0)) = false := decide_eq_false c12
 clear c12
 by_cases c16 : x24_1 > 0
 {
 rw [if_pos c16] at H
 have c16b0 : decide (0 < x24_1) = true := decide_eq_true c16
 clear c16
 obtain ⟨ji17, hji17⟩ : ∃ j_ : Int, (wrap64 (x24_1 - 1)) = j_ := ⟨_, rfl⟩
 replace H : (if 0 ≤ (ji17) then (if (ji17) < (l0_1.length : Int) then (if ((rd_T81 l0_1 (ji17)).f0) ≥ ((rd_T81 l0_1 x24_1).f0) then (some false) else (if ((rd_T81 l0_1 (ji17)).f2) > ((rd_T81 l0_1 x24_1).f2) then (some false) else (spec_l03Is.l0 k1 (l0_1.length : Int) (wrap64 (x24_1 + 1)) a0_0 l0_1))) else (none)) else (none)) = some r := by first | (rw [hji17] at H; exact H) | (simp only [hji17] at H ⊢; exact H)
 (try rw [hji17] at A10)
 have hji17w : (IntKind.i64.wrap (x24_1 - 1)) = ji17 := (i64_w _).trans hji17
 by_cases c18 : 0 ≤ (ji17)
 {
 rw [if_pos c18] at H
 have c18b0 : decide (0 ≤ (ji17)) = true := decide_eq_true c18
 clear c18
 by_cases c19 : (ji17) < (l0_1.length : Int)
 {
 rw [if_pos c19] at H
 have c19b0 : decide ((ji17) < (l0_1.length : Int)) = true := decide_eq_true c19
 clear c19
 by_cases c20 : ((rd_T81 l0_1 (ji17)).f0) ≥ ((rd_T81 l0_1 x24_1).f0)
 {
 rw [if_pos c20] at H
 have c20b0 : decide (((rd_T81 l0_1 x24_1).f0) ≤ ((rd_T81 l0_1 (ji17)).f0)) = true := decide_eq_true c20
 clear c20
 obtain rfl := Option.some.inj H
 have hcz21_0 : wr.cell? ⟨g0_, 0, none⟩ = some (.int .i64 a0_0) := (blk_cell BK0.out 0).trans rfl
 have hcz21_1 : wr.cell? ⟨g0_, 1, none⟩ = some (.slice A0_1 l0_1.length c0_1) := (blk_cell BK0.out 1).trans rfl
 have hfz21_0 := blk_frozen BK0.out 0
 have hfz21_1 := blk_frozen BK0.out 1
 have p169 : 0 ≤ (x24_1 : Int) := of_decide_eq_true (by first | (with_reducible assumption) | assumption)
 have q169 : x24_1 < (l0_1.length : Int) := of_decide_eq_true (by first | (with_reducible assumption) | assumption)
 obtain ⟨ad169, A169_7, c169_7, e169, hx169_0, hx169_1, hx169_2, hx169_3, hx169_4, hx169_5, hx169_6, hx169_7, hl169_7, hi169_7⟩ := at_T81 HR0_1.out x24_1 p169 q169
 cases e169
 replace hx169_0 := (HB.out.cell (World.block_lt_of_cell? w _ hx169_0)).trans hx169_0
 replace hx169_1 := (HB.out.cell (World.block_lt_of_cell? w _ hx169_1)).trans hx169_1
 replace hx169_2 := (HB.out.cell (World.block_lt_of_cell? w _ hx169_2)).trans hx169_2
 replace hx169_3 := (HB.out.cell (World.block_lt_of_cell? w _ hx169_3)).trans hx169_3
 replace hx169_4 := (HB.out.cell (World.block_lt_of_cell? w _ hx169_4)).trans hx169_4
 replace hx169_5 := (HB.out.cell (World.block_lt_of_cell? w _ hx169_5)).trans hx169_5
 replace hx169_6 := (HB.out.cell (World.block_lt_of_cell? w _ hx169_6)).trans hx169_6
 replace hx169_7 := (HB.out.cell (World.block_lt_of_cell? w _ hx169_7)).trans hx169_7
 have HR169_7 := Aside0.mk hi169_7
 have HC169_7 := Aside0.mk hl169_7
 clear hi169_7 hl169_7
 replace p169 := eq_true p169
 replace q169 := eq_true q169
 try go_wp2
 have n0_ := Aside0.mk (blk_drew BK0.out)
 have n1_ := Aside0.mk (below_drew1 HB.out)
 clear BK0
 clear HB
 have BK0 := n0_
 have HB := n1_
 clear n0_ n1_
 have p171 : 0 ≤ (x24_1 : Int) := of_decide_eq_true (by first | (with_reducible assumption) | assumption)
 have q171 : x24_1 < (l0_1.length : Int) := of_decide_eq_true (by first | (with_reducible assumption) | assumption)
 obtain ⟨ad171, A171_7, c171_7, e171, hx171_0, hx171_1, hx171_2, hx171_3, hx171_4, hx171_5, hx171_6, hx171_7, hl171_7, hi171_7⟩ := at_T81 HR0_1.out x24_1 p171 q171
 have hw171_7 := hx171_7
 have hw171_6 := hx171_6
 have hw171_5 := hx171_5
 have hw171_4 := hx171_4
 have hw171_3 := hx171_3
 have hw171_2 := hx171_2
 have hw171_1 := hx171_1
 have hw171_0 := hx171_0
 obtain rfl : ad169 = ad171 := (by injection e171)
 replace hx171_0 := (HB.out.cell (World.block_lt_of_cell? w _ hx171_0)).trans hx171_0
 replace hx171_1 := (HB.out.cell (World.block_lt_of_cell? w _ hx171_1)).trans hx171_1
 replace hx171_2 := (HB.out.cell (World.block_lt_of_cell? w _ hx171_2)).trans hx171_2
 replace hx171_3 := (HB.out.cell (World.block_lt_of_cell? w _ hx171_3)).trans hx171_3
 replace hx171_4 := (HB.out.cell (World.block_lt_of_cell? w _ hx171_4)).trans hx171_4
 replace hx171_5 := (HB.out.cell (World.block_lt_of_cell? w _ hx171_5)).trans hx171_5
 replace hx171_6 := (HB.out.cell (World.block_lt_of_cell? w _ hx171_6)).trans hx171_6
 replace hx171_7 := (HB.out.cell (World.block_lt_of_cell? w _ hx171_7)).trans hx171_7
 have HR171_7 := Aside0.mk hi171_7
 have HC171_7 := Aside0.mk hl171_7
 clear hi171_7 hl171_7
 replace p171 := eq_true p171
 replace q171 := eq_true q171
 refine start_ (n := 14) (S := fun w' => w'.cell? ⟨g0_, 0, none⟩ = some (.int .i64 a0_0) ∧ w'.cell? ⟨g0_, 1, none⟩ = some (.slice (some ad169) l0_1.length c0_1) ∧ w'.cell? (ad169.add ((x24_1).toNat * 8)) = some (.int .i64 ((rd_T81 l0_1 x24_1).f0)) ∧ w'.cell? ⟨(ad169.add ((x24_1).toNat * 8)).block, (ad169.add ((x24_1).toNat * 8)).off + 1, none⟩ = some (.int .i64 ((rd_T81 l0_1 x24_1).f1)) ∧ w'.cell? ⟨(ad169.add ((x24_1).toNat * 8)).block, (ad169.add ((x24_1).toNat * 8)).off + 2, none⟩ = some (.int .i64 ((rd_T81 l0_1 x24_1).f2)) ∧ w'.cell? ⟨(ad169.add ((x24_1).toNat * 8)).block, (ad169.add ((x24_1).toNat * 8)).off + 3, none⟩ = some (.string ((rd_T81 l0_1 x24_1).f3)) ∧ w'.cell? ⟨(ad169.add ((x24_1).toNat * 8)).block, (ad169.add ((x24_1).toNat * 8)).off + 4, none⟩ = some (.int .i64 ((rd_T81 l0_1 x24_1).f4)) ∧ w'.cell? ⟨(ad169.add ((x24_1).toNat * 8)).block, (ad169.add ((x24_1).toNat * 8)).off + 5, none⟩ = some (.bool ((rd_T81 l0_1 x24_1).f5)) ∧ w'.cell? ⟨(ad169.add ((x24_1).toNat * 8)).block, (ad169.add ((x24_1).toNat * 8)).off + 6, none⟩ = some (.int .i64 ((rd_T81 l0_1 x24_1).f6)) ∧ w'.cell? ⟨(ad169.add ((x24_1).toNat * 8)).block, (ad169.add ((x24_1).toNat * 8)).off + 7, none⟩ = some (.slice A171_7 ((rd_T81 l0_1 x24_1).f7).length c171_7)) (ds := []) m0_ s2_ rfl rfl ⟨(blk_cell BK0.out 0).trans rfl, (blk_cell BK0.out 1).trans rfl, ((HB.out.cell (World.block_lt_of_cell? w _ hw171_0)).trans hw171_0), ((HB.out.cell (World.block_lt_of_cell? w _ hw171_1)).trans hw171_1), ((HB.out.cell (World.block_lt_of_cell? w _ hw171_2)).trans hw171_2), ((HB.out.cell (World.block_lt_of_cell? w _ hw171_3)).trans hw171_3), ((HB.out.cell (World.block_lt_of_cell? w _ hw171_4)).trans hw171_4), ((HB.out.cell (World.block_lt_of_cell? w _ hw171_5)).trans hw171_5), ((HB.out.cell (World.block_lt_of_cell? w _ hw171_6)).trans hw171_6), ((HB.out.cell (World.block_lt_of_cell? w _ hw171_7)).trans hw171_7)⟩ (fun hHeld => ?_); refine with_tabW spec_l03Is.tab7 spec_l03Is.bits7 (fun HT_ HW_ => ?_)
 generalize wr.drew = w22 at BK0 HB HR171_7 hx171_0 hx171_1 hx171_2 hx171_3 hx171_4 hx171_5 hx171_6 hx171_7 hHeld ⊢
 refine pu_ 0 33 m1_ (any_of HT_.out s2_) ?_
 refine one_ (i := 1) (N := some 34) m2_ rfl rfl (one_of HT_.out s2_) (by decide) (fun K hK => ?_)
 refine goes_ Try.func57 s2_ rfl #[.pointer (some (ad169.add ((x24_1).toNat * 8)))] (by rfl) rfl rfl s3_ ?_
 with_reducible refine (spec_l03Message_v0.calls k1 ad169 c0_1 l0_1 x24_1 true _ ?side1 ?side2 A10.out).mono ?_
 (case side1 => repeat (first | exact (Kd.C_below HR0_1.out HB.out) | (with_reducible refine Kd.C_alloc ?_ _) | (with_reducible refine Kd.C_drewN ?_ _) | (with_reducible refine Kd.C_drew ?_)))
 (case side2 => exact HC0_1.out)
 rintro e w23 ⟨rfl, hb⟩
 refine ⟨_, rfl, ?_⟩
 have n0_ := Aside0.mk (blk_below (g := g0_) (o := .cells #[.int .i64 a0_0, .slice (some ad169) l0_1.length c0_1] 38 (0, 0)) (b1_ BK0.out) hb)
 have n1_ := Aside0.mk (below_step (by repeat (first | (with_reducible first | exact HB.out | apply below_alloc | apply pw_below_drewN | apply below_drew1 | refine below_set ?_ GE0.out) | exact HB.out)) hb)
 clear BK0
 clear HB
 have BK0 := n0_
 have HB := n1_
 clear n0_ n1_
 (try clear hb)
 (try clear hb2)
 (try clear hk)
 (try clear hi)
 refine hK.out _ _ ⟨(blk_cell BK0.out 0).trans rfl, (blk_cell BK0.out 1).trans rfl, ((HB.out.cell (World.block_lt_of_cell? w _ hw171_0)).trans hw171_0), ((HB.out.cell (World.block_lt_of_cell? w _ hw171_1)).trans hw171_1), ((HB.out.cell (World.block_lt_of_cell? w _ hw171_2)).trans hw171_2), ((HB.out.cell (World.block_lt_of_cell? w _ hw171_3)).trans hw171_3), ((HB.out.cell (World.block_lt_of_cell? w _ hw171_4)).trans hw171_4), ((HB.out.cell (World.block_lt_of_cell? w _ hw171_5)).trans hw171_5), ((HB.out.cell (World.block_lt_of_cell? w _ hw171_6)).trans hw171_6), ((HB.out.cell (World.block_lt_of_cell? w _ hw171_7)).trans hw171_7)⟩ (fun hHeld => ?_)
 clear hK K
 refine norm_ (a' := ?_) ?_ ?_
 rotate_left
 {
 show Act.put _ (some 34) _ = _
 simp only [Act.put, List.setIfInBounds_toArray, List.set_cons_zero, List.set_cons_succ, i64_w, i32_w]
 rfl}
 refine pu_ 2 35 m3_ (any_of HT_.out s2_) ?_
 refine pu_ 3 36 m4_ (any_of HT_.out s2_) ?_
 refine pu_ 4 37 m5_ (any_of HT_.out s2_) ?_
 refine pu_ 5 38 m6_ (any_of HT_.out s2_) ?_
 refine pu_ 6 39 m7_ (any_of HT_.out s2_) ?_
 refine pu_ 8 41 m8_ (any_of HT_.out s2_) ?_
 refine pu_ 9 42 m9_ (any_of HT_.out s2_) ?_
 refine pu_ 10 43 m10_ (any_of HT_.out s2_) ?_
 refine take_ (i := 7) (N := some 40) (v := ?_) (a' := ?_) m11_ rfl rfl (take_ofW HT_.out HW_.out s2_) (fun _ _ _ h => h) (Or.inl ⟨by rfl, ?_⟩) hHeld ?_ ?_
 rotate_left
 {
 rintro w' ⟨s0, s1, s2, s3, s4, s5, s6, s7, s8, s9⟩
 go_simp
 with_reducible rfl}
 rotate_left
 · exact p1_
 refine take_ (i := 11) (N := some 44) (v := ?_) (a' := ?_) m12_ rfl rfl (take_ofW HT_.out HW_.out s2_) (fun _ _ _ h => h) (Or.inl ⟨by rfl, ?_⟩) hHeld ?_ ?_
 rotate_left
 {
 rintro w' ⟨s0, s1, s2, s3, s4, s5, s6, s7, s8, s9⟩
 go_simp
 with_reducible rfl}
 rotate_left
 · exact p1_
 refine pu_ 12 45 m13_ (any_of HT_.out s2_) ?_
 refine pu_ 13 46 m14_ (any_of HT_.out s2_) ?_
 refine done_ (done_of HT_.out s2_) ?_
 try go_wp2
 have n0_ := Aside0.mk (blk_drew BK0.out)
 have n1_ := Aside0.mk (below_drew1 HB.out)
 clear BK0
 clear HB
 have BK0 := n0_
 have HB := n1_
 clear n0_ n1_
 have p172 : 0 ≤ ((ji17) : Int) := of_decide_eq_true (by first | (with_reducible assumption) | assumption)
 have q172 : (ji17) < (l0_1.length : Int) := of_decide_eq_true (by first | (with_reducible assumption) | assumption)
 obtain ⟨ad172, A172_7, c172_7, e172, hx172_0, hx172_1, hx172_2, hx172_3, hx172_4, hx172_5, hx172_6, hx172_7, hl172_7, hi172_7⟩ := at_T81 HR0_1.out (ji17) p172 q172
 have hw172_7 := hx172_7
 have hw172_6 := hx172_6
 have hw172_5 := hx172_5
 have hw172_4 := hx172_4
 have hw172_3 := hx172_3
 have hw172_2 := hx172_2
 have hw172_1 := hx172_1
 have hw172_0 := hx172_0
 obtain rfl : ad169 = ad172 := (by injection e172)
 replace hx172_0 := (HB.out.cell (World.block_lt_of_cell? w _ hx172_0)).trans hx172_0
 replace hx172_1 := (HB.out.cell (World.block_lt_of_cell? w _ hx172_1)).trans hx172_1
 replace hx172_2 := (HB.out.cell (World.block_lt_of_cell? w _ hx172_2)).trans hx172_2
 replace hx172_3 := (HB.out.cell (World.block_lt_of_cell? w _ hx172_3)).trans hx172_3
 replace hx172_4 := (HB.out.cell (World.block_lt_of_cell? w _ hx172_4)).trans hx172_4
 replace hx172_5 := (HB.out.cell (World.block_lt_of_cell? w _ hx172_5)).trans hx172_5
 replace hx172_6 := (HB.out.cell (World.block_lt_of_cell? w _ hx172_6)).trans hx172_6
 replace hx172_7 := (HB.out.cell (World.block_lt_of_cell? w _ hx172_7)).trans hx172_7
 have HR172_7 := Aside0.mk hi172_7
 have HC172_7 := Aside0.mk hl172_7
 clear hi172_7 hl172_7
 replace p172 := eq_true p172
 replace q172 := eq_true q172
 have p173 : 0 ≤ (x24_1 : Int) := of_decide_eq_true (by first | (with_reducible assumption) | assumption)
 have q173 : x24_1 < (l0_1.length : Int) := of_decide_eq_true (by first | (with_reducible assumption) | assumption)
 obtain ⟨ad173, A173_7, c173_7, e173, hx173_0, hx173_1, hx173_2, hx173_3, hx173_4, hx173_5, hx173_6, hx173_7, hl173_7, hi173_7⟩ := at_T81 HR0_1.out x24_1 p173 q173
 have hw173_7 := hx173_7
 have hw173_6 := hx173_6
 have hw173_5 := hx173_5
 have hw173_4 := hx173_4
 have hw173_3 := hx173_3
 have hw173_2 := hx173_2
 have hw173_1 := hx173_1
 have hw173_0 := hx173_0
 obtain rfl : ad169 = ad173 := (by injection e173)
 replace hx173_0 := (HB.out.cell (World.block_lt_of_cell? w _ hx173_0)).trans hx173_0
 replace hx173_1 := (HB.out.cell (World.block_lt_of_cell? w _ hx173_1)).trans hx173_1
 replace hx173_2 := (HB.out.cell (World.block_lt_of_cell? w _ hx173_2)).trans hx173_2
 replace hx173_3 := (HB.out.cell (World.block_lt_of_cell? w _ hx173_3)).trans hx173_3
 replace hx173_4 := (HB.out.cell (World.block_lt_of_cell? w _ hx173_4)).trans hx173_4
 replace hx173_5 := (HB.out.cell (World.block_lt_of_cell? w _ hx173_5)).trans hx173_5
 replace hx173_6 := (HB.out.cell (World.block_lt_of_cell? w _ hx173_6)).trans hx173_6
 replace hx173_7 := (HB.out.cell (World.block_lt_of_cell? w _ hx173_7)).trans hx173_7
 have HR173_7 := Aside0.mk hi173_7
 have HC173_7 := Aside0.mk hl173_7
 clear hi173_7 hl173_7
 replace p173 := eq_true p173
 replace q173 := eq_true q173
 refine start_ (n := 34) (S := fun w' => w'.cell? ⟨g0_, 0, none⟩ = some (.int .i64 a0_0) ∧ w'.cell? ⟨g0_, 1, none⟩ = some (.slice (some ad169) l0_1.length c0_1) ∧ w'.cell? (ad169.add (((ji17)).toNat * 8)) = some (.int .i64 ((rd_T81 l0_1 (ji17)).f0)) ∧ w'.cell? ⟨(ad169.add (((ji17)).toNat * 8)).block, (ad169.add (((ji17)).toNat * 8)).off + 1, none⟩ = some (.int .i64 ((rd_T81 l0_1 (ji17)).f1)) ∧ w'.cell? ⟨(ad169.add (((ji17)).toNat * 8)).block, (ad169.add (((ji17)).toNat * 8)).off + 2, none⟩ = some (.int .i64 ((rd_T81 l0_1 (ji17)).f2)) ∧ w'.cell? ⟨(ad169.add (((ji17)).toNat * 8)).block, (ad169.add (((ji17)).toNat * 8)).off + 3, none⟩ = some (.string ((rd_T81 l0_1 (ji17)).f3)) ∧ w'.cell? ⟨(ad169.add (((ji17)).toNat * 8)).block, (ad169.add (((ji17)).toNat * 8)).off + 4, none⟩ = some (.int .i64 ((rd_T81 l0_1 (ji17)).f4)) ∧ w'.cell? ⟨(ad169.add (((ji17)).toNat * 8)).block, (ad169.add (((ji17)).toNat * 8)).off + 5, none⟩ = some (.bool ((rd_T81 l0_1 (ji17)).f5)) ∧ w'.cell? ⟨(ad169.add (((ji17)).toNat * 8)).block, (ad169.add (((ji17)).toNat * 8)).off + 6, none⟩ = some (.int .i64 ((rd_T81 l0_1 (ji17)).f6)) ∧ w'.cell? ⟨(ad169.add (((ji17)).toNat * 8)).block, (ad169.add (((ji17)).toNat * 8)).off + 7, none⟩ = some (.slice A172_7 ((rd_T81 l0_1 (ji17)).f7).length c172_7) ∧ w'.cell? (ad169.add ((x24_1).toNat * 8)) = some (.int .i64 ((rd_T81 l0_1 x24_1).f0)) ∧ w'.cell? ⟨(ad169.add ((x24_1).toNat * 8)).block, (ad169.add ((x24_1).toNat * 8)).off + 1, none⟩ = some (.int .i64 ((rd_T81 l0_1 x24_1).f1)) ∧ w'.cell? ⟨(ad169.add ((x24_1).toNat * 8)).block, (ad169.add ((x24_1).toNat * 8)).off + 2, none⟩ = some (.int .i64 ((rd_T81 l0_1 x24_1).f2)) ∧ w'.cell? ⟨(ad169.add ((x24_1).toNat * 8)).block, (ad169.add ((x24_1).toNat * 8)).off + 3, none⟩ = some (.string ((rd_T81 l0_1 x24_1).f3)) ∧ w'.cell? ⟨(ad169.add ((x24_1).toNat * 8)).block, (ad169.add ((x24_1).toNat * 8)).off + 4, none⟩ = some (.int .i64 ((rd_T81 l0_1 x24_1).f4)) ∧ w'.cell? ⟨(ad169.add ((x24_1).toNat * 8)).block, (ad169.add ((x24_1).toNat * 8)).off + 5, none⟩ = some (.bool ((rd_T81 l0_1 x24_1).f5)) ∧ w'.cell? ⟨(ad169.add ((x24_1).toNat * 8)).block, (ad169.add ((x24_1).toNat * 8)).off + 6, none⟩ = some (.int .i64 ((rd_T81 l0_1 x24_1).f6)) ∧ w'.cell? ⟨(ad169.add ((x24_1).toNat * 8)).block, (ad169.add ((x24_1).toNat * 8)).off + 7, none⟩ = some (.slice A173_7 ((rd_T81 l0_1 x24_1).f7).length c173_7)) (ds := []) m15_ s2_ rfl rfl ⟨(blk_cell BK0.out 0).trans rfl, (blk_cell BK0.out 1).trans rfl, ((HB.out.cell (World.block_lt_of_cell? w _ hw172_0)).trans hw172_0), ((HB.out.cell (World.block_lt_of_cell? w _ hw172_1)).trans hw172_1), ((HB.out.cell (World.block_lt_of_cell? w _ hw172_2)).trans hw172_2), ((HB.out.cell (World.block_lt_of_cell? w _ hw172_3)).trans hw172_3), ((HB.out.cell (World.block_lt_of_cell? w _ hw172_4)).trans hw172_4), ((HB.out.cell (World.block_lt_of_cell? w _ hw172_5)).trans hw172_5), ((HB.out.cell (World.block_lt_of_cell? w _ hw172_6)).trans hw172_6), ((HB.out.cell (World.block_lt_of_cell? w _ hw172_7)).trans hw172_7), ((HB.out.cell (World.block_lt_of_cell? w _ hw173_0)).trans hw173_0), ((HB.out.cell (World.block_lt_of_cell? w _ hw173_1)).trans hw173_1), ((HB.out.cell (World.block_lt_of_cell? w _ hw173_2)).trans hw173_2), ((HB.out.cell (World.block_lt_of_cell? w _ hw173_3)).trans hw173_3), ((HB.out.cell (World.block_lt_of_cell? w _ hw173_4)).trans hw173_4), ((HB.out.cell (World.block_lt_of_cell? w _ hw173_5)).trans hw173_5), ((HB.out.cell (World.block_lt_of_cell? w _ hw173_6)).trans hw173_6), ((HB.out.cell (World.block_lt_of_cell? w _ hw173_7)).trans hw173_7)⟩ (fun hHeld => ?_); refine with_tabW spec_l03Is.tab9 spec_l03Is.bits9 (fun HT_ HW_ => ?_)
 generalize w23.drew = w24 at BK0 HB HR172_7 HR173_7 hx172_0 hx172_1 hx172_2 hx172_3 hx172_4 hx172_5 hx172_6 hx172_7 hx173_0 hx173_1 hx173_2 hx173_3 hx173_4 hx173_5 hx173_6 hx173_7 hHeld ⊢
 refine pu_ 0 47 m16_ (any_of HT_.out s2_) ?_
 refine pu_ 1 48 m17_ (any_of HT_.out s2_) ?_
 refine pu_ 2 49 m18_ (any_of HT_.out s2_) ?_
 refine pu_ 3 50 m19_ (any_of HT_.out s2_) ?_
 refine pu_ 4 51 m20_ (any_of HT_.out s2_) ?_
 refine pu_ 5 52 m21_ (any_of HT_.out s2_) ?_
 refine pu_ 7 54 m22_ (any_of HT_.out s2_) ?_
 refine pu_ 8 55 m23_ (any_of HT_.out s2_) ?_
 refine pu_ 12 59 m24_ (any_of HT_.out s2_) ?_
 refine pu_ 13 60 m25_ (any_of HT_.out s2_) ?_
 refine pu_ 14 61 m26_ (any_of HT_.out s2_) ?_
 refine take_ (i := 6) (N := some 53) (v := ?_) (a' := ?_) m27_ rfl rfl (take_ofW HT_.out HW_.out s2_) (fun _ _ _ h => h) (Or.inl ⟨by rfl, ?_⟩) hHeld ?_ ?_
 rotate_left
 {
 rintro w' ⟨s0, s1, s2, s3, s4, s5, s6, s7, s8, s9, s10, s11, s12, s13, s14, s15, s16, s17⟩
 go_simp
 with_reducible rfl}
 rotate_left
 · exact p1_
 refine pu_ 9 56 m28_ (any_of HT_.out s2_) ?_
 refine pu_ 10 57 m29_ (any_of HT_.out s2_) ?_
 refine take_ (i := 11) (N := some 58) (v := ?_) (a' := ?_) m30_ rfl rfl (take_ofW HT_.out HW_.out s2_) (fun _ _ _ h => h) (Or.inl ⟨by rfl, ?_⟩) hHeld ?_ ?_
 rotate_left
 {
 rintro w' ⟨s0, s1, s2, s3, s4, s5, s6, s7, s8, s9, s10, s11, s12, s13, s14, s15, s16, s17⟩
 go_simp
 with_reducible rfl}
 rotate_left
 · exact p1_
 refine take_ (i := 15) (N := some 62) (v := ?_) (a' := ?_) m31_ rfl rfl (take_ofW HT_.out HW_.out s2_) (fun _ _ _ h => h) (Or.inl ⟨by rfl, ?_⟩) hHeld ?_ ?_
 rotate_left
 {
 rintro w' ⟨s0, s1, s2, s3, s4, s5, s6, s7, s8, s9, s10, s11, s12, s13, s14, s15, s16, s17⟩
 go_simp
 with_reducible rfl}
 rotate_left
 · exact p1_
 refine pu_ 16 63 m32_ (any_of HT_.out s2_) ?_
 refine pu_ 17 64 m33_ (any_of HT_.out s2_) ?_
 refine pn_ 18 65 m34_ (any_of HT_.out s2_) ?_
 refine pn_ 19 66 m35_ (any_of HT_.out s2_) ?_
 refine pn_ 20 67 m36_ (any_of HT_.out s2_) ?_
 refine pn_ 21 68 m37_ (any_of HT_.out s2_) ?_
 refine pn_ 22 69 m38_ (any_of HT_.out s2_) ?_
 refine pn_ 23 70 m39_ (any_of HT_.out s2_) ?_
 refine pn_ 24 71 m40_ (any_of HT_.out s2_) ?_
 refine pn_ 25 72 m41_ (any_of HT_.out s2_) ?_
 refine pn_ 26 73 m42_ (any_of HT_.out s2_) ?_
 refine pn_ 27 74 m43_ (any_of HT_.out s2_) ?_
 refine pn_ 28 75 m44_ (any_of HT_.out s2_) ?_
 refine pn_ 29 76 m45_ (any_of HT_.out s2_) ?_
 refine pn_ 30 77 m46_ (any_of HT_.out s2_) ?_
 refine pn_ 31 78 m47_ (any_of HT_.out s2_) ?_
 refine pu_ 32 79 m48_ (any_of HT_.out s2_) ?_
 refine pu_ 33 80 m49_ (any_of HT_.out s2_) ?_
 refine done_ (done_of HT_.out s2_) ?_
 try go_wp2
 go_ret
 exact ⟨by first | rfl | (simp [errW_none, errW_some] <;> rfl) | (simp only [← hji17]; first | rfl | (simp [errW_none, errW_some] <;> rfl)) | (simp [*, errW_none, errW_some] <;> rfl), by repeat (first | (with_reducible first | exact HB.out | apply below_alloc | apply pw_below_drewN | apply below_drew1 | refine below_set ?_ GE0.out) | exact HB.out)⟩}
 {
 rw [if_neg c20] at H
 have c20b0 : decide (((rd_T81 l0_1 x24_1).f0) ≤ ((rd_T81 l0_1 (ji17)).f0)) = false := decide_eq_false c20
 clear c20
 by_cases c25 : ((rd_T81 l0_1 (ji17)).f2) > ((rd_T81 l0_1 x24_1).f2)
 {
 rw [if_pos c25] at H
 have c25b0 : decide (((rd_T81 l0_1 x24_1).f2) < ((rd_T81 l0_1 (ji17)).f2)) = true := decide_eq_true c25
 clear c25
 obtain rfl := Option.some.inj H
 have hcz26_0 : wr.cell? ⟨g0_, 0, none⟩ = some (.int .i64 a0_0) := (blk_cell BK0.out 0).trans rfl
 have hcz26_1 : wr.cell? ⟨g0_, 1, none⟩ = some (.slice A0_1 l0_1.length c0_1) := (blk_cell BK0.out 1).trans rfl
 have hfz26_0 := blk_frozen BK0.out 0
 have hfz26_1 := blk_frozen BK0.out 1
 have p169 : 0 ≤ (x24_1 : Int) := of_decide_eq_true (by first | (with_reducible assumption) | assumption)
 have q169 : x24_1 < (l0_1.length : Int) := of_decide_eq_true (by first | (with_reducible assumption) | assumption)
 obtain ⟨ad169, A169_7, c169_7, e169, hx169_0, hx169_1, hx169_2, hx169_3, hx169_4, hx169_5, hx169_6, hx169_7, hl169_7, hi169_7⟩ := at_T81 HR0_1.out x24_1 p169 q169
 cases e169
 replace hx169_0 := (HB.out.cell (World.block_lt_of_cell? w _ hx169_0)).trans hx169_0
 replace hx169_1 := (HB.out.cell (World.block_lt_of_cell? w _ hx169_1)).trans hx169_1
 replace hx169_2 := (HB.out.cell (World.block_lt_of_cell? w _ hx169_2)).trans hx169_2
 replace hx169_3 := (HB.out.cell (World.block_lt_of_cell? w _ hx169_3)).trans hx169_3
 replace hx169_4 := (HB.out.cell (World.block_lt_of_cell? w _ hx169_4)).trans hx169_4
 replace hx169_5 := (HB.out.cell (World.block_lt_of_cell? w _ hx169_5)).trans hx169_5
 replace hx169_6 := (HB.out.cell (World.block_lt_of_cell? w _ hx169_6)).trans hx169_6
 replace hx169_7 := (HB.out.cell (World.block_lt_of_cell? w _ hx169_7)).trans hx169_7
 have HR169_7 := Aside0.mk hi169_7
 have HC169_7 := Aside0.mk hl169_7
 clear hi169_7 hl169_7
 replace p169 := eq_true p169
 replace q169 := eq_true q169
 try go_wp2
 have n0_ := Aside0.mk (blk_drew BK0.out)
 have n1_ := Aside0.mk (below_drew1 HB.out)
 clear BK0
 clear HB
 have BK0 := n0_
 have HB := n1_
 clear n0_ n1_
 have p171 : 0 ≤ (x24_1 : Int) := of_decide_eq_true (by first | (with_reducible assumption) | assumption)
 have q171 : x24_1 < (l0_1.length : Int) := of_decide_eq_true (by first | (with_reducible assumption) | assumption)
 obtain ⟨ad171, A171_7, c171_7, e171, hx171_0, hx171_1, hx171_2, hx171_3, hx171_4, hx171_5, hx171_6, hx171_7, hl171_7, hi171_7⟩ := at_T81 HR0_1.out x24_1 p171 q171
 have hw171_7 := hx171_7
 have hw171_6 := hx171_6
 have hw171_5 := hx171_5
 have hw171_4 := hx171_4
 have hw171_3 := hx171_3
 have hw171_2 := hx171_2
 have hw171_1 := hx171_1
 have hw171_0 := hx171_0
 obtain rfl : ad169 = ad171 := (by injection e171)
 replace hx171_0 := (HB.out.cell (World.block_lt_of_cell? w _ hx171_0)).trans hx171_0
 replace hx171_1 := (HB.out.cell (World.block_lt_of_cell? w _ hx171_1)).trans hx171_1
 replace hx171_2 := (HB.out.cell (World.block_lt_of_cell? w _ hx171_2)).trans hx171_2
 replace hx171_3 := (HB.out.cell (World.block_lt_of_cell? w _ hx171_3)).trans hx171_3
 replace hx171_4 := (HB.out.cell (World.block_lt_of_cell? w _ hx171_4)).trans hx171_4
 replace hx171_5 := (HB.out.cell (World.block_lt_of_cell? w _ hx171_5)).trans hx171_5
 replace hx171_6 := (HB.out.cell (World.block_lt_of_cell? w _ hx171_6)).trans hx171_6
 replace hx171_7 := (HB.out.cell (World.block_lt_of_cell? w _ hx171_7)).trans hx171_7
 have HR171_7 := Aside0.mk hi171_7
 have HC171_7 := Aside0.mk hl171_7
 clear hi171_7 hl171_7
 replace p171 := eq_true p171
 replace q171 := eq_true q171
 refine start_ (n := 14) (S := fun w' => w'.cell? ⟨g0_, 0, none⟩ = some (.int .i64 a0_0) ∧ w'.cell? ⟨g0_, 1, none⟩ = some (.slice (some ad169) l0_1.length c0_1) ∧ w'.cell? (ad169.add ((x24_1).toNat * 8)) = some (.int .i64 ((rd_T81 l0_1 x24_1).f0)) ∧ w'.cell? ⟨(ad169.add ((x24_1).toNat * 8)).block, (ad169.add ((x24_1).toNat * 8)).off + 1, none⟩ = some (.int .i64 ((rd_T81 l0_1 x24_1).f1)) ∧ w'.cell? ⟨(ad169.add ((x24_1).toNat * 8)).block, (ad169.add ((x24_1).toNat * 8)).off + 2, none⟩ = some (.int .i64 ((rd_T81 l0_1 x24_1).f2)) ∧ w'.cell? ⟨(ad169.add ((x24_1).toNat * 8)).block, (ad169.add ((x24_1).toNat * 8)).off + 3, none⟩ = some (.string ((rd_T81 l0_1 x24_1).f3)) ∧ w'.cell? ⟨(ad169.add ((x24_1).toNat * 8)).block, (ad169.add ((x24_1).toNat * 8)).off + 4, none⟩ = some (.int .i64 ((rd_T81 l0_1 x24_1).f4)) ∧ w'.cell? ⟨(ad169.add ((x24_1).toNat * 8)).block, (ad169.add ((x24_1).toNat * 8)).off + 5, none⟩ = some (.bool ((rd_T81 l0_1 x24_1).f5)) ∧ w'.cell? ⟨(ad169.add ((x24_1).toNat * 8)).block, (ad169.add ((x24_1).toNat * 8)).off + 6, none⟩ = some (.int .i64 ((rd_T81 l0_1 x24_1).f6)) ∧ w'.cell? ⟨(ad169.add ((x24_1).toNat * 8)).block, (ad169.add ((x24_1).toNat * 8)).off + 7, none⟩ = some (.slice A171_7 ((rd_T81 l0_1 x24_1).f7).length c171_7)) (ds := []) m0_ s2_ rfl rfl ⟨(blk_cell BK0.out 0).trans rfl, (blk_cell BK0.out 1).trans rfl, ((HB.out.cell (World.block_lt_of_cell? w _ hw171_0)).trans hw171_0), ((HB.out.cell (World.block_lt_of_cell? w _ hw171_1)).trans hw171_1), ((HB.out.cell (World.block_lt_of_cell? w _ hw171_2)).trans hw171_2), ((HB.out.cell (World.block_lt_of_cell? w _ hw171_3)).trans hw171_3), ((HB.out.cell (World.block_lt_of_cell? w _ hw171_4)).trans hw171_4), ((HB.out.cell (World.block_lt_of_cell? w _ hw171_5)).trans hw171_5), ((HB.out.cell (World.block_lt_of_cell? w _ hw171_6)).trans hw171_6), ((HB.out.cell (World.block_lt_of_cell? w _ hw171_7)).trans hw171_7)⟩ (fun hHeld => ?_); refine with_tabW spec_l03Is.tab7 spec_l03Is.bits7 (fun HT_ HW_ => ?_)
 generalize wr.drew = w27 at BK0 HB HR171_7 hx171_0 hx171_1 hx171_2 hx171_3 hx171_4 hx171_5 hx171_6 hx171_7 hHeld ⊢
 refine pu_ 0 33 m1_ (any_of HT_.out s2_) ?_
 refine one_ (i := 1) (N := some 34) m2_ rfl rfl (one_of HT_.out s2_) (by decide) (fun K hK => ?_)
 refine goes_ Try.func57 s2_ rfl #[.pointer (some (ad169.add ((x24_1).toNat * 8)))] (by rfl) rfl rfl s3_ ?_
 with_reducible refine (spec_l03Message_v0.calls k1 ad169 c0_1 l0_1 x24_1 true _ ?side1 ?side2 A10.out).mono ?_
 (case side1 => repeat (first | exact (Kd.C_below HR0_1.out HB.out) | (with_reducible refine Kd.C_alloc ?_ _) | (with_reducible refine Kd.C_drewN ?_ _) | (with_reducible refine Kd.C_drew ?_)))
 (case side2 => exact HC0_1.out)
 rintro e w28 ⟨rfl, hb⟩
 refine ⟨_, rfl, ?_⟩
 have n0_ := Aside0.mk (blk_below (g := g0_) (o := .cells #[.int .i64 a0_0, .slice (some ad169) l0_1.length c0_1] 38 (0, 0)) (b1_ BK0.out) hb)
 have n1_ := Aside0.mk (below_step (by repeat (first | (with_reducible first | exact HB.out | apply below_alloc | apply pw_below_drewN | apply below_drew1 | refine below_set ?_ GE0.out) | exact HB.out)) hb)
 clear BK0
 clear HB
 have BK0 := n0_
 have HB := n1_
 clear n0_ n1_
 (try clear hb)
 (try clear hb2)
 (try clear hk)
 (try clear hi)
 refine hK.out _ _ ⟨(blk_cell BK0.out 0).trans rfl, (blk_cell BK0.out 1).trans rfl, ((HB.out.cell (World.block_lt_of_cell? w _ hw171_0)).trans hw171_0), ((HB.out.cell (World.block_lt_of_cell? w _ hw171_1)).trans hw171_1), ((HB.out.cell (World.block_lt_of_cell? w _ hw171_2)).trans hw171_2), ((HB.out.cell (World.block_lt_of_cell? w _ hw171_3)).trans hw171_3), ((HB.out.cell (World.block_lt_of_cell? w _ hw171_4)).trans hw171_4), ((HB.out.cell (World.block_lt_of_cell? w _ hw171_5)).trans hw171_5), ((HB.out.cell (World.block_lt_of_cell? w _ hw171_6)).trans hw171_6), ((HB.out.cell (World.block_lt_of_cell? w _ hw171_7)).trans hw171_7)⟩ (fun hHeld => ?_)
 clear hK K
 refine norm_ (a' := ?_) ?_ ?_
 rotate_left
 {
 show Act.put _ (some 34) _ = _
 simp only [Act.put, List.setIfInBounds_toArray, List.set_cons_zero, List.set_cons_succ, i64_w, i32_w]
 rfl}
 refine pu_ 2 35 m3_ (any_of HT_.out s2_) ?_
 refine pu_ 3 36 m4_ (any_of HT_.out s2_) ?_
 refine pu_ 4 37 m5_ (any_of HT_.out s2_) ?_
 refine pu_ 5 38 m6_ (any_of HT_.out s2_) ?_
 refine pu_ 6 39 m7_ (any_of HT_.out s2_) ?_
 refine pu_ 8 41 m8_ (any_of HT_.out s2_) ?_
 refine pu_ 9 42 m9_ (any_of HT_.out s2_) ?_
 refine pu_ 10 43 m10_ (any_of HT_.out s2_) ?_
 refine take_ (i := 7) (N := some 40) (v := ?_) (a' := ?_) m11_ rfl rfl (take_ofW HT_.out HW_.out s2_) (fun _ _ _ h => h) (Or.inl ⟨by rfl, ?_⟩) hHeld ?_ ?_
 rotate_left
 {
 rintro w' ⟨s0, s1, s2, s3, s4, s5, s6, s7, s8, s9⟩
 go_simp
 with_reducible rfl}
 rotate_left
 · exact p1_
 refine take_ (i := 11) (N := some 44) (v := ?_) (a' := ?_) m12_ rfl rfl (take_ofW HT_.out HW_.out s2_) (fun _ _ _ h => h) (Or.inl ⟨by rfl, ?_⟩) hHeld ?_ ?_
 rotate_left
 {
 rintro w' ⟨s0, s1, s2, s3, s4, s5, s6, s7, s8, s9⟩
 go_simp
 with_reducible rfl}
 rotate_left
 · exact p1_
 refine pu_ 12 45 m13_ (any_of HT_.out s2_) ?_
 refine pu_ 13 46 m14_ (any_of HT_.out s2_) ?_
 refine done_ (done_of HT_.out s2_) ?_
 try go_wp2
 have n0_ := Aside0.mk (blk_drew BK0.out)
 have n1_ := Aside0.mk (below_drew1 HB.out)
 clear BK0
 clear HB
 have BK0 := n0_
 have HB := n1_
 clear n0_ n1_
 have p172 : 0 ≤ ((ji17) : Int) := of_decide_eq_true (by first | (with_reducible assumption) | assumption)
 have q172 : (ji17) < (l0_1.length : Int) := of_decide_eq_true (by first | (with_reducible assumption) | assumption)
 obtain ⟨ad172, A172_7, c172_7, e172, hx172_0, hx172_1, hx172_2, hx172_3, hx172_4, hx172_5, hx172_6, hx172_7, hl172_7, hi172_7⟩ := at_T81 HR0_1.out (ji17) p172 q172
 have hw172_7 := hx172_7
 have hw172_6 := hx172_6
 have hw172_5 := hx172_5
 have hw172_4 := hx172_4
 have hw172_3 := hx172_3
 have hw172_2 := hx172_2
 have hw172_1 := hx172_1
 have hw172_0 := hx172_0
 obtain rfl : ad169 = ad172 := (by injection e172)
 replace hx172_0 := (HB.out.cell (World.block_lt_of_cell? w _ hx172_0)).trans hx172_0
 replace hx172_1 := (HB.out.cell (World.block_lt_of_cell? w _ hx172_1)).trans hx172_1
 replace hx172_2 := (HB.out.cell (World.block_lt_of_cell? w _ hx172_2)).trans hx172_2
 replace hx172_3 := (HB.out.cell (World.block_lt_of_cell? w _ hx172_3)).trans hx172_3
 replace hx172_4 := (HB.out.cell (World.block_lt_of_cell? w _ hx172_4)).trans hx172_4
 replace hx172_5 := (HB.out.cell (World.block_lt_of_cell? w _ hx172_5)).trans hx172_5
 replace hx172_6 := (HB.out.cell (World.block_lt_of_cell? w _ hx172_6)).trans hx172_6
 replace hx172_7 := (HB.out.cell (World.block_lt_of_cell? w _ hx172_7)).trans hx172_7
 have HR172_7 := Aside0.mk hi172_7
 have HC172_7 := Aside0.mk hl172_7
 clear hi172_7 hl172_7
 replace p172 := eq_true p172
 replace q172 := eq_true q172
 have p173 : 0 ≤ (x24_1 : Int) := of_decide_eq_true (by first | (with_reducible assumption) | assumption)
 have q173 : x24_1 < (l0_1.length : Int) := of_decide_eq_true (by first | (with_reducible assumption) | assumption)
 obtain ⟨ad173, A173_7, c173_7, e173, hx173_0, hx173_1, hx173_2, hx173_3, hx173_4, hx173_5, hx173_6, hx173_7, hl173_7, hi173_7⟩ := at_T81 HR0_1.out x24_1 p173 q173
 have hw173_7 := hx173_7
 have hw173_6 := hx173_6
 have hw173_5 := hx173_5
 have hw173_4 := hx173_4
 have hw173_3 := hx173_3
 have hw173_2 := hx173_2
 have hw173_1 := hx173_1
 have hw173_0 := hx173_0
 obtain rfl : ad169 = ad173 := (by injection e173)
 replace hx173_0 := (HB.out.cell (World.block_lt_of_cell? w _ hx173_0)).trans hx173_0
 replace hx173_1 := (HB.out.cell (World.block_lt_of_cell? w _ hx173_1)).trans hx173_1
 replace hx173_2 := (HB.out.cell (World.block_lt_of_cell? w _ hx173_2)).trans hx173_2
 replace hx173_3 := (HB.out.cell (World.block_lt_of_cell? w _ hx173_3)).trans hx173_3
 replace hx173_4 := (HB.out.cell (World.block_lt_of_cell? w _ hx173_4)).trans hx173_4
 replace hx173_5 := (HB.out.cell (World.block_lt_of_cell? w _ hx173_5)).trans hx173_5
 replace hx173_6 := (HB.out.cell (World.block_lt_of_cell? w _ hx173_6)).trans hx173_6
 replace hx173_7 := (HB.out.cell (World.block_lt_of_cell? w _ hx173_7)).trans hx173_7
 have HR173_7 := Aside0.mk hi173_7
 have HC173_7 := Aside0.mk hl173_7
 clear hi173_7 hl173_7
 replace p173 := eq_true p173
 replace q173 := eq_true q173
 have p174 : 0 ≤ ((ji17) : Int) := of_decide_eq_true (by first | (with_reducible assumption) | assumption)
 have q174 : (ji17) < (l0_1.length : Int) := of_decide_eq_true (by first | (with_reducible assumption) | assumption)
 obtain ⟨ad174, A174_7, c174_7, e174, hx174_0, hx174_1, hx174_2, hx174_3, hx174_4, hx174_5, hx174_6, hx174_7, hl174_7, hi174_7⟩ := at_T81 HR0_1.out (ji17) p174 q174
 have hw174_7 := hx174_7
 have hw174_6 := hx174_6
 have hw174_5 := hx174_5
 have hw174_4 := hx174_4
 have hw174_3 := hx174_3
 have hw174_2 := hx174_2
 have hw174_1 := hx174_1
 have hw174_0 := hx174_0
 obtain rfl : ad169 = ad174 := (by injection e174)
 replace hx174_0 := (HB.out.cell (World.block_lt_of_cell? w _ hx174_0)).trans hx174_0
 replace hx174_1 := (HB.out.cell (World.block_lt_of_cell? w _ hx174_1)).trans hx174_1
 replace hx174_2 := (HB.out.cell (World.block_lt_of_cell? w _ hx174_2)).trans hx174_2
 replace hx174_3 := (HB.out.cell (World.block_lt_of_cell? w _ hx174_3)).trans hx174_3
 replace hx174_4 := (HB.out.cell (World.block_lt_of_cell? w _ hx174_4)).trans hx174_4
 replace hx174_5 := (HB.out.cell (World.block_lt_of_cell? w _ hx174_5)).trans hx174_5
 replace hx174_6 := (HB.out.cell (World.block_lt_of_cell? w _ hx174_6)).trans hx174_6
 replace hx174_7 := (HB.out.cell (World.block_lt_of_cell? w _ hx174_7)).trans hx174_7
 have HR174_7 := Aside0.mk hi174_7
 have HC174_7 := Aside0.mk hl174_7
 clear hi174_7 hl174_7
 replace p174 := eq_true p174
 replace q174 := eq_true q174
 have ea_ := Option.some.inj (hx172_7.symm.trans hx174_7)
 injection ea_ with ea_ en_ ec_
 subst ea_
 subst ec_
 clear en_
 refine start_ (n := 34) (S := fun w' => w'.cell? ⟨g0_, 0, none⟩ = some (.int .i64 a0_0) ∧ w'.cell? ⟨g0_, 1, none⟩ = some (.slice (some ad169) l0_1.length c0_1) ∧ w'.cell? (ad169.add (((ji17)).toNat * 8)) = some (.int .i64 ((rd_T81 l0_1 (ji17)).f0)) ∧ w'.cell? ⟨(ad169.add (((ji17)).toNat * 8)).block, (ad169.add (((ji17)).toNat * 8)).off + 1, none⟩ = some (.int .i64 ((rd_T81 l0_1 (ji17)).f1)) ∧ w'.cell? ⟨(ad169.add (((ji17)).toNat * 8)).block, (ad169.add (((ji17)).toNat * 8)).off + 2, none⟩ = some (.int .i64 ((rd_T81 l0_1 (ji17)).f2)) ∧ w'.cell? ⟨(ad169.add (((ji17)).toNat * 8)).block, (ad169.add (((ji17)).toNat * 8)).off + 3, none⟩ = some (.string ((rd_T81 l0_1 (ji17)).f3)) ∧ w'.cell? ⟨(ad169.add (((ji17)).toNat * 8)).block, (ad169.add (((ji17)).toNat * 8)).off + 4, none⟩ = some (.int .i64 ((rd_T81 l0_1 (ji17)).f4)) ∧ w'.cell? ⟨(ad169.add (((ji17)).toNat * 8)).block, (ad169.add (((ji17)).toNat * 8)).off + 5, none⟩ = some (.bool ((rd_T81 l0_1 (ji17)).f5)) ∧ w'.cell? ⟨(ad169.add (((ji17)).toNat * 8)).block, (ad169.add (((ji17)).toNat * 8)).off + 6, none⟩ = some (.int .i64 ((rd_T81 l0_1 (ji17)).f6)) ∧ w'.cell? ⟨(ad169.add (((ji17)).toNat * 8)).block, (ad169.add (((ji17)).toNat * 8)).off + 7, none⟩ = some (.slice A172_7 ((rd_T81 l0_1 (ji17)).f7).length c172_7) ∧ w'.cell? (ad169.add ((x24_1).toNat * 8)) = some (.int .i64 ((rd_T81 l0_1 x24_1).f0)) ∧ w'.cell? ⟨(ad169.add ((x24_1).toNat * 8)).block, (ad169.add ((x24_1).toNat * 8)).off + 1, none⟩ = some (.int .i64 ((rd_T81 l0_1 x24_1).f1)) ∧ w'.cell? ⟨(ad169.add ((x24_1).toNat * 8)).block, (ad169.add ((x24_1).toNat * 8)).off + 2, none⟩ = some (.int .i64 ((rd_T81 l0_1 x24_1).f2)) ∧ w'.cell? ⟨(ad169.add ((x24_1).toNat * 8)).block, (ad169.add ((x24_1).toNat * 8)).off + 3, none⟩ = some (.string ((rd_T81 l0_1 x24_1).f3)) ∧ w'.cell? ⟨(ad169.add ((x24_1).toNat * 8)).block, (ad169.add ((x24_1).toNat * 8)).off + 4, none⟩ = some (.int .i64 ((rd_T81 l0_1 x24_1).f4)) ∧ w'.cell? ⟨(ad169.add ((x24_1).toNat * 8)).block, (ad169.add ((x24_1).toNat * 8)).off + 5, none⟩ = some (.bool ((rd_T81 l0_1 x24_1).f5)) ∧ w'.cell? ⟨(ad169.add ((x24_1).toNat * 8)).block, (ad169.add ((x24_1).toNat * 8)).off + 6, none⟩ = some (.int .i64 ((rd_T81 l0_1 x24_1).f6)) ∧ w'.cell? ⟨(ad169.add ((x24_1).toNat * 8)).block, (ad169.add ((x24_1).toNat * 8)).off + 7, none⟩ = some (.slice A173_7 ((rd_T81 l0_1 x24_1).f7).length c173_7) ∧ w'.cell? (ad169.add (((ji17)).toNat * 8)) = some (.int .i64 ((rd_T81 l0_1 (ji17)).f0)) ∧ w'.cell? ⟨(ad169.add (((ji17)).toNat * 8)).block, (ad169.add (((ji17)).toNat * 8)).off + 1, none⟩ = some (.int .i64 ((rd_T81 l0_1 (ji17)).f1)) ∧ w'.cell? ⟨(ad169.add (((ji17)).toNat * 8)).block, (ad169.add (((ji17)).toNat * 8)).off + 2, none⟩ = some (.int .i64 ((rd_T81 l0_1 (ji17)).f2)) ∧ w'.cell? ⟨(ad169.add (((ji17)).toNat * 8)).block, (ad169.add (((ji17)).toNat * 8)).off + 3, none⟩ = some (.string ((rd_T81 l0_1 (ji17)).f3)) ∧ w'.cell? ⟨(ad169.add (((ji17)).toNat * 8)).block, (ad169.add (((ji17)).toNat * 8)).off + 4, none⟩ = some (.int .i64 ((rd_T81 l0_1 (ji17)).f4)) ∧ w'.cell? ⟨(ad169.add (((ji17)).toNat * 8)).block, (ad169.add (((ji17)).toNat * 8)).off + 5, none⟩ = some (.bool ((rd_T81 l0_1 (ji17)).f5)) ∧ w'.cell? ⟨(ad169.add (((ji17)).toNat * 8)).block, (ad169.add (((ji17)).toNat * 8)).off + 6, none⟩ = some (.int .i64 ((rd_T81 l0_1 (ji17)).f6)) ∧ w'.cell? ⟨(ad169.add (((ji17)).toNat * 8)).block, (ad169.add (((ji17)).toNat * 8)).off + 7, none⟩ = some (.slice A172_7 ((rd_T81 l0_1 (ji17)).f7).length c172_7)) (ds := []) m15_ s2_ rfl rfl ⟨(blk_cell BK0.out 0).trans rfl, (blk_cell BK0.out 1).trans rfl, ((HB.out.cell (World.block_lt_of_cell? w _ hw172_0)).trans hw172_0), ((HB.out.cell (World.block_lt_of_cell? w _ hw172_1)).trans hw172_1), ((HB.out.cell (World.block_lt_of_cell? w _ hw172_2)).trans hw172_2), ((HB.out.cell (World.block_lt_of_cell? w _ hw172_3)).trans hw172_3), ((HB.out.cell (World.block_lt_of_cell? w _ hw172_4)).trans hw172_4), ((HB.out.cell (World.block_lt_of_cell? w _ hw172_5)).trans hw172_5), ((HB.out.cell (World.block_lt_of_cell? w _ hw172_6)).trans hw172_6), ((HB.out.cell (World.block_lt_of_cell? w _ hw172_7)).trans hw172_7), ((HB.out.cell (World.block_lt_of_cell? w _ hw173_0)).trans hw173_0), ((HB.out.cell (World.block_lt_of_cell? w _ hw173_1)).trans hw173_1), ((HB.out.cell (World.block_lt_of_cell? w _ hw173_2)).trans hw173_2), ((HB.out.cell (World.block_lt_of_cell? w _ hw173_3)).trans hw173_3), ((HB.out.cell (World.block_lt_of_cell? w _ hw173_4)).trans hw173_4), ((HB.out.cell (World.block_lt_of_cell? w _ hw173_5)).trans hw173_5), ((HB.out.cell (World.block_lt_of_cell? w _ hw173_6)).trans hw173_6), ((HB.out.cell (World.block_lt_of_cell? w _ hw173_7)).trans hw173_7), ((HB.out.cell (World.block_lt_of_cell? w _ hw174_0)).trans hw174_0), ((HB.out.cell (World.block_lt_of_cell? w _ hw174_1)).trans hw174_1), ((HB.out.cell (World.block_lt_of_cell? w _ hw174_2)).trans hw174_2), ((HB.out.cell (World.block_lt_of_cell? w _ hw174_3)).trans hw174_3), ((HB.out.cell (World.block_lt_of_cell? w _ hw174_4)).trans hw174_4), ((HB.out.cell (World.block_lt_of_cell? w _ hw174_5)).trans hw174_5), ((HB.out.cell (World.block_lt_of_cell? w _ hw174_6)).trans hw174_6), ((HB.out.cell (World.block_lt_of_cell? w _ hw174_7)).trans hw174_7)⟩ (fun hHeld => ?_); refine with_tabW spec_l03Is.tab9 spec_l03Is.bits9 (fun HT_ HW_ => ?_)
 generalize w28.drew = w29 at BK0 HB HR172_7 HR173_7 HR174_7 hx172_0 hx172_1 hx172_2 hx172_3 hx172_4 hx172_5 hx172_6 hx172_7 hx173_0 hx173_1 hx173_2 hx173_3 hx173_4 hx173_5 hx173_6 hx173_7 hx174_0 hx174_1 hx174_2 hx174_3 hx174_4 hx174_5 hx174_6 hx174_7 hHeld ⊢
 refine pu_ 0 47 m16_ (any_of HT_.out s2_) ?_
 refine pu_ 1 48 m17_ (any_of HT_.out s2_) ?_
 refine pu_ 2 49 m18_ (any_of HT_.out s2_) ?_
 refine pu_ 3 50 m19_ (any_of HT_.out s2_) ?_
 refine pu_ 4 51 m20_ (any_of HT_.out s2_) ?_
 refine pu_ 5 52 m21_ (any_of HT_.out s2_) ?_
 refine pu_ 7 54 m22_ (any_of HT_.out s2_) ?_
 refine pu_ 8 55 m23_ (any_of HT_.out s2_) ?_
 refine pu_ 12 59 m24_ (any_of HT_.out s2_) ?_
 refine pu_ 13 60 m25_ (any_of HT_.out s2_) ?_
 refine pu_ 14 61 m26_ (any_of HT_.out s2_) ?_
 refine take_ (i := 6) (N := some 53) (v := ?_) (a' := ?_) m27_ rfl rfl (take_ofW HT_.out HW_.out s2_) (fun _ _ _ h => h) (Or.inl ⟨by rfl, ?_⟩) hHeld ?_ ?_
 rotate_left
 {
 rintro w' ⟨s0, s1, s2, s3, s4, s5, s6, s7, s8, s9, s10, s11, s12, s13, s14, s15, s16, s17, s18, s19, s20, s21, s22, s23, s24, s25⟩
 go_simp
 with_reducible rfl}
 rotate_left
 · exact p1_
 refine pu_ 9 56 m28_ (any_of HT_.out s2_) ?_
 refine pu_ 10 57 m29_ (any_of HT_.out s2_) ?_
 refine take_ (i := 11) (N := some 58) (v := ?_) (a' := ?_) m30_ rfl rfl (take_ofW HT_.out HW_.out s2_) (fun _ _ _ h => h) (Or.inl ⟨by rfl, ?_⟩) hHeld ?_ ?_
 rotate_left
 {
 rintro w' ⟨s0, s1, s2, s3, s4, s5, s6, s7, s8, s9, s10, s11, s12, s13, s14, s15, s16, s17, s18, s19, s20, s21, s22, s23, s24, s25⟩
 go_simp
 with_reducible rfl}
 rotate_left
 · exact p1_
 refine take_ (i := 15) (N := some 62) (v := ?_) (a' := ?_) m31_ rfl rfl (take_ofW HT_.out HW_.out s2_) (fun _ _ _ h => h) (Or.inl ⟨by rfl, ?_⟩) hHeld ?_ ?_
 rotate_left
 {
 rintro w' ⟨s0, s1, s2, s3, s4, s5, s6, s7, s8, s9, s10, s11, s12, s13, s14, s15, s16, s17, s18, s19, s20, s21, s22, s23, s24, s25⟩
 go_simp
 with_reducible rfl}
 rotate_left
 · exact p1_
 refine pu_ 16 63 m32_ (any_of HT_.out s2_) ?_
 refine pu_ 17 64 m33_ (any_of HT_.out s2_) ?_
 refine pu_ 18 65 m34_ (any_of HT_.out s2_) ?_
 refine pu_ 19 66 m35_ (any_of HT_.out s2_) ?_
 refine pu_ 20 67 m36_ (any_of HT_.out s2_) ?_
 refine pu_ 22 69 m50_ (any_of HT_.out s2_) ?_
 refine pu_ 23 70 m51_ (any_of HT_.out s2_) ?_
 refine pu_ 27 74 m52_ (any_of HT_.out s2_) ?_
 refine pu_ 28 75 m53_ (any_of HT_.out s2_) ?_
 refine pu_ 29 76 m54_ (any_of HT_.out s2_) ?_
 refine take_ (i := 21) (N := some 68) (v := ?_) (a' := ?_) m55_ rfl rfl (take_ofW HT_.out HW_.out s2_) (fun _ _ _ h => h) (Or.inl ⟨by rfl, ?_⟩) hHeld ?_ ?_
 rotate_left
 {
 rintro w' ⟨s0, s1, s2, s3, s4, s5, s6, s7, s8, s9, s10, s11, s12, s13, s14, s15, s16, s17, s18, s19, s20, s21, s22, s23, s24, s25⟩
 go_simp
 with_reducible rfl}
 rotate_left
 · exact p1_
 refine pu_ 24 71 m56_ (any_of HT_.out s2_) ?_
 refine pu_ 25 72 m57_ (any_of HT_.out s2_) ?_
 refine take_ (i := 26) (N := some 73) (v := ?_) (a' := ?_) m45_ rfl rfl (take_ofW HT_.out HW_.out s2_) (fun _ _ _ h => h) (Or.inl ⟨by rfl, ?_⟩) hHeld ?_ ?_
 rotate_left
 {
 rintro w' ⟨s0, s1, s2, s3, s4, s5, s6, s7, s8, s9, s10, s11, s12, s13, s14, s15, s16, s17, s18, s19, s20, s21, s22, s23, s24, s25⟩
 go_simp
 with_reducible rfl}
 rotate_left
 · exact p1_
 refine take_ (i := 30) (N := some 77) (v := ?_) (a' := ?_) m46_ rfl rfl (take_ofW HT_.out HW_.out s2_) (fun _ _ _ h => h) (Or.inl ⟨by rfl, ?_⟩) hHeld ?_ ?_
 rotate_left
 {
 rintro w' ⟨s0, s1, s2, s3, s4, s5, s6, s7, s8, s9, s10, s11, s12, s13, s14, s15, s16, s17, s18, s19, s20, s21, s22, s23, s24, s25⟩
 go_simp
 with_reducible rfl}
 rotate_left
 · exact p1_
 refine pu_ 31 78 m47_ (any_of HT_.out s2_) ?_
 refine pu_ 32 79 m48_ (any_of HT_.out s2_) ?_
 refine pu_ 33 80 m49_ (any_of HT_.out s2_) ?_
 refine done_ (done_of HT_.out s2_) ?_
 try go_wp2
 go_ret
 exact ⟨by first | rfl | (simp [errW_none, errW_some] <;> rfl) | (simp only [← hji17]; first | rfl | (simp [errW_none, errW_some] <;> rfl)) | (simp [*, errW_none, errW_some] <;> rfl), by repeat (first | (with_reducible first | exact HB.out | apply below_alloc | apply pw_below_drewN | apply below_drew1 | refine below_set ?_ GE0.out) | exact HB.out)⟩}
 {
 rw [if_neg c25] at H
 have c25b0 : decide (((rd_T81 l0_1 x24_1).f2) < ((rd_T81 l0_1 (ji17)).f2)) = false := decide_eq_false c25
 clear c25
 have H' := Aside0.mk H
 clear H
 have hcz30_0 : wr.cell? ⟨g0_, 0, none⟩ = some (.int .i64 a0_0) := (blk_cell BK0.out 0).trans rfl
 have hcz30_1 : wr.cell? ⟨g0_, 1, none⟩ = some (.slice A0_1 l0_1.length c0_1) := (blk_cell BK0.out 1).trans rfl
 have hfz30_0 := blk_frozen BK0.out 0
 have hfz30_1 := blk_frozen BK0.out 1
 have p169 : 0 ≤ (x24_1 : Int) := of_decide_eq_true (by first | (with_reducible assumption) | assumption)
 have q169 : x24_1 < (l0_1.length : Int) := of_decide_eq_true (by first | (with_reducible assumption) | assumption)
 obtain ⟨ad169, A169_7, c169_7, e169, hx169_0, hx169_1, hx169_2, hx169_3, hx169_4, hx169_5, hx169_6, hx169_7, hl169_7, hi169_7⟩ := at_T81 HR0_1.out x24_1 p169 q169
 cases e169
 replace hx169_0 := (HB.out.cell (World.block_lt_of_cell? w _ hx169_0)).trans hx169_0
 replace hx169_1 := (HB.out.cell (World.block_lt_of_cell? w _ hx169_1)).trans hx169_1
 replace hx169_2 := (HB.out.cell (World.block_lt_of_cell? w _ hx169_2)).trans hx169_2
 replace hx169_3 := (HB.out.cell (World.block_lt_of_cell? w _ hx169_3)).trans hx169_3
 replace hx169_4 := (HB.out.cell (World.block_lt_of_cell? w _ hx169_4)).trans hx169_4
 replace hx169_5 := (HB.out.cell (World.block_lt_of_cell? w _ hx169_5)).trans hx169_5
 replace hx169_6 := (HB.out.cell (World.block_lt_of_cell? w _ hx169_6)).trans hx169_6
 replace hx169_7 := (HB.out.cell (World.block_lt_of_cell? w _ hx169_7)).trans hx169_7
 have HR169_7 := Aside0.mk hi169_7
 have HC169_7 := Aside0.mk hl169_7
 clear hi169_7 hl169_7
 replace p169 := eq_true p169
 replace q169 := eq_true q169
 try go_wp2
 have n0_ := Aside0.mk (blk_drew BK0.out)
 have n1_ := Aside0.mk (below_drew1 HB.out)
 clear BK0
 clear HB
 have BK0 := n0_
 have HB := n1_
 clear n0_ n1_
 have p171 : 0 ≤ (x24_1 : Int) := of_decide_eq_true (by first | (with_reducible assumption) | assumption)
 have q171 : x24_1 < (l0_1.length : Int) := of_decide_eq_true (by first | (with_reducible assumption) | assumption)
 obtain ⟨ad171, A171_7, c171_7, e171, hx171_0, hx171_1, hx171_2, hx171_3, hx171_4, hx171_5, hx171_6, hx171_7, hl171_7, hi171_7⟩ := at_T81 HR0_1.out x24_1 p171 q171
 have hw171_7 := hx171_7
 have hw171_6 := hx171_6
 have hw171_5 := hx171_5
 have hw171_4 := hx171_4
 have hw171_3 := hx171_3
 have hw171_2 := hx171_2
 have hw171_1 := hx171_1
 have hw171_0 := hx171_0
 obtain rfl : ad169 = ad171 := (by injection e171)
 replace hx171_0 := (HB.out.cell (World.block_lt_of_cell? w _ hx171_0)).trans hx171_0
 replace hx171_1 := (HB.out.cell (World.block_lt_of_cell? w _ hx171_1)).trans hx171_1
 replace hx171_2 := (HB.out.cell (World.block_lt_of_cell? w _ hx171_2)).trans hx171_2
 replace hx171_3 := (HB.out.cell (World.block_lt_of_cell? w _ hx171_3)).trans hx171_3
 replace hx171_4 := (HB.out.cell (World.block_lt_of_cell? w _ hx171_4)).trans hx171_4
 replace hx171_5 := (HB.out.cell (World.block_lt_of_cell? w _ hx171_5)).trans hx171_5
 replace hx171_6 := (HB.out.cell (World.block_lt_of_cell? w _ hx171_6)).trans hx171_6
 replace hx171_7 := (HB.out.cell (World.block_lt_of_cell? w _ hx171_7)).trans hx171_7
 have HR171_7 := Aside0.mk hi171_7
 have HC171_7 := Aside0.mk hl171_7
 clear hi171_7 hl171_7
 replace p171 := eq_true p171
 replace q171 := eq_true q171
 refine start_ (n := 14) (S := fun w' => w'.cell? ⟨g0_, 0, none⟩ = some (.int .i64 a0_0) ∧ w'.cell? ⟨g0_, 1, none⟩ = some (.slice (some ad169) l0_1.length c0_1) ∧ w'.cell? (ad169.add ((x24_1).toNat * 8)) = some (.int .i64 ((rd_T81 l0_1 x24_1).f0)) ∧ w'.cell? ⟨(ad169.add ((x24_1).toNat * 8)).block, (ad169.add ((x24_1).toNat * 8)).off + 1, none⟩ = some (.int .i64 ((rd_T81 l0_1 x24_1).f1)) ∧ w'.cell? ⟨(ad169.add ((x24_1).toNat * 8)).block, (ad169.add ((x24_1).toNat * 8)).off + 2, none⟩ = some (.int .i64 ((rd_T81 l0_1 x24_1).f2)) ∧ w'.cell? ⟨(ad169.add ((x24_1).toNat * 8)).block, (ad169.add ((x24_1).toNat * 8)).off + 3, none⟩ = some (.string ((rd_T81 l0_1 x24_1).f3)) ∧ w'.cell? ⟨(ad169.add ((x24_1).toNat * 8)).block, (ad169.add ((x24_1).toNat * 8)).off + 4, none⟩ = some (.int .i64 ((rd_T81 l0_1 x24_1).f4)) ∧ w'.cell? ⟨(ad169.add ((x24_1).toNat * 8)).block, (ad169.add ((x24_1).toNat * 8)).off + 5, none⟩ = some (.bool ((rd_T81 l0_1 x24_1).f5)) ∧ w'.cell? ⟨(ad169.add ((x24_1).toNat * 8)).block, (ad169.add ((x24_1).toNat * 8)).off + 6, none⟩ = some (.int .i64 ((rd_T81 l0_1 x24_1).f6)) ∧ w'.cell? ⟨(ad169.add ((x24_1).toNat * 8)).block, (ad169.add ((x24_1).toNat * 8)).off + 7, none⟩ = some (.slice A171_7 ((rd_T81 l0_1 x24_1).f7).length c171_7)) (ds := []) m0_ s2_ rfl rfl ⟨(blk_cell BK0.out 0).trans rfl, (blk_cell BK0.out 1).trans rfl, ((HB.out.cell (World.block_lt_of_cell? w _ hw171_0)).trans hw171_0), ((HB.out.cell (World.block_lt_of_cell? w _ hw171_1)).trans hw171_1), ((HB.out.cell (World.block_lt_of_cell? w _ hw171_2)).trans hw171_2), ((HB.out.cell (World.block_lt_of_cell? w _ hw171_3)).trans hw171_3), ((HB.out.cell (World.block_lt_of_cell? w _ hw171_4)).trans hw171_4), ((HB.out.cell (World.block_lt_of_cell? w _ hw171_5)).trans hw171_5), ((HB.out.cell (World.block_lt_of_cell? w _ hw171_6)).trans hw171_6), ((HB.out.cell (World.block_lt_of_cell? w _ hw171_7)).trans hw171_7)⟩ (fun hHeld => ?_); refine with_tabW spec_l03Is.tab7 spec_l03Is.bits7 (fun HT_ HW_ => ?_)
 generalize wr.drew = w31 at BK0 HB HR171_7 hx171_0 hx171_1 hx171_2 hx171_3 hx171_4 hx171_5 hx171_6 hx171_7 hHeld ⊢
 refine pu_ 0 33 m1_ (any_of HT_.out s2_) ?_
 refine one_ (i := 1) (N := some 34) m2_ rfl rfl (one_of HT_.out s2_) (by decide) (fun K hK => ?_)
 refine goes_ Try.func57 s2_ rfl #[.pointer (some (ad169.add ((x24_1).toNat * 8)))] (by rfl) rfl rfl s3_ ?_
 with_reducible refine (spec_l03Message_v0.calls k1 ad169 c0_1 l0_1 x24_1 true _ ?side1 ?side2 A10.out).mono ?_
 (case side1 => repeat (first | exact (Kd.C_below HR0_1.out HB.out) | (with_reducible refine Kd.C_alloc ?_ _) | (with_reducible refine Kd.C_drewN ?_ _) | (with_reducible refine Kd.C_drew ?_)))
 (case side2 => exact HC0_1.out)
 rintro e w32 ⟨rfl, hb⟩
 refine ⟨_, rfl, ?_⟩
 have n0_ := Aside0.mk (blk_below (g := g0_) (o := .cells #[.int .i64 a0_0, .slice (some ad169) l0_1.length c0_1] 38 (0, 0)) (b1_ BK0.out) hb)
 have n1_ := Aside0.mk (below_step (by repeat (first | (with_reducible first | exact HB.out | apply below_alloc | apply pw_below_drewN | apply below_drew1 | refine below_set ?_ GE0.out) | exact HB.out)) hb)
 clear BK0
 clear HB
 have BK0 := n0_
 have HB := n1_
 clear n0_ n1_
 (try clear hb)
 (try clear hb2)
 (try clear hk)
 (try clear hi)
 refine hK.out _ _ ⟨(blk_cell BK0.out 0).trans rfl, (blk_cell BK0.out 1).trans rfl, ((HB.out.cell (World.block_lt_of_cell? w _ hw171_0)).trans hw171_0), ((HB.out.cell (World.block_lt_of_cell? w _ hw171_1)).trans hw171_1), ((HB.out.cell (World.block_lt_of_cell? w _ hw171_2)).trans hw171_2), ((HB.out.cell (World.block_lt_of_cell? w _ hw171_3)).trans hw171_3), ((HB.out.cell (World.block_lt_of_cell? w _ hw171_4)).trans hw171_4), ((HB.out.cell (World.block_lt_of_cell? w _ hw171_5)).trans hw171_5), ((HB.out.cell (World.block_lt_of_cell? w _ hw171_6)).trans hw171_6), ((HB.out.cell (World.block_lt_of_cell? w _ hw171_7)).trans hw171_7)⟩ (fun hHeld => ?_)
 clear hK K
 refine norm_ (a' := ?_) ?_ ?_
 rotate_left
 {
 show Act.put _ (some 34) _ = _
 simp only [Act.put, List.setIfInBounds_toArray, List.set_cons_zero, List.set_cons_succ, i64_w, i32_w]
 rfl}
 refine pu_ 2 35 m3_ (any_of HT_.out s2_) ?_
 refine pu_ 3 36 m4_ (any_of HT_.out s2_) ?_
 refine pu_ 4 37 m5_ (any_of HT_.out s2_) ?_
 refine pu_ 5 38 m6_ (any_of HT_.out s2_) ?_
 refine pu_ 6 39 m7_ (any_of HT_.out s2_) ?_
 refine pu_ 8 41 m8_ (any_of HT_.out s2_) ?_
 refine pu_ 9 42 m9_ (any_of HT_.out s2_) ?_
 refine pu_ 10 43 m10_ (any_of HT_.out s2_) ?_
 refine take_ (i := 7) (N := some 40) (v := ?_) (a' := ?_) m11_ rfl rfl (take_ofW HT_.out HW_.out s2_) (fun _ _ _ h => h) (Or.inl ⟨by rfl, ?_⟩) hHeld ?_ ?_
 rotate_left
 {
 rintro w' ⟨s0, s1, s2, s3, s4, s5, s6, s7, s8, s9⟩
 go_simp
 with_reducible rfl}
 rotate_left
 · exact p1_
 refine take_ (i := 11) (N := some 44) (v := ?_) (a' := ?_) m12_ rfl rfl (take_ofW HT_.out HW_.out s2_) (fun _ _ _ h => h) (Or.inl ⟨by rfl, ?_⟩) hHeld ?_ ?_
 rotate_left
 {
 rintro w' ⟨s0, s1, s2, s3, s4, s5, s6, s7, s8, s9⟩
 go_simp
 with_reducible rfl}
 rotate_left
 · exact p1_
 refine pu_ 12 45 m13_ (any_of HT_.out s2_) ?_
 refine pu_ 13 46 m14_ (any_of HT_.out s2_) ?_
 refine done_ (done_of HT_.out s2_) ?_
 try go_wp2
 have n0_ := Aside0.mk (blk_drew BK0.out)
 have n1_ := Aside0.mk (below_drew1 HB.out)
 clear BK0
 clear HB
 have BK0 := n0_
 have HB := n1_
 clear n0_ n1_
 have p172 : 0 ≤ ((ji17) : Int) := of_decide_eq_true (by first | (with_reducible assumption) | assumption)
 have q172 : (ji17) < (l0_1.length : Int) := of_decide_eq_true (by first | (with_reducible assumption) | assumption)
 obtain ⟨ad172, A172_7, c172_7, e172, hx172_0, hx172_1, hx172_2, hx172_3, hx172_4, hx172_5, hx172_6, hx172_7, hl172_7, hi172_7⟩ := at_T81 HR0_1.out (ji17) p172 q172
 have hw172_7 := hx172_7
 have hw172_6 := hx172_6
 have hw172_5 := hx172_5
 have hw172_4 := hx172_4
 have hw172_3 := hx172_3
 have hw172_2 := hx172_2
 have hw172_1 := hx172_1
 have hw172_0 := hx172_0
 obtain rfl : ad169 = ad172 := (by injection e172)
 replace hx172_0 := (HB.out.cell (World.block_lt_of_cell? w _ hx172_0)).trans hx172_0
 replace hx172_1 := (HB.out.cell (World.block_lt_of_cell? w _ hx172_1)).trans hx172_1
 replace hx172_2 := (HB.out.cell (World.block_lt_of_cell? w _ hx172_2)).trans hx172_2
 replace hx172_3 := (HB.out.cell (World.block_lt_of_cell? w _ hx172_3)).trans hx172_3
 replace hx172_4 := (HB.out.cell (World.block_lt_of_cell? w _ hx172_4)).trans hx172_4
 replace hx172_5 := (HB.out.cell (World.block_lt_of_cell? w _ hx172_5)).trans hx172_5
 replace hx172_6 := (HB.out.cell (World.block_lt_of_cell? w _ hx172_6)).trans hx172_6
 replace hx172_7 := (HB.out.cell (World.block_lt_of_cell? w _ hx172_7)).trans hx172_7
 have HR172_7 := Aside0.mk hi172_7
 have HC172_7 := Aside0.mk hl172_7
 clear hi172_7 hl172_7
 replace p172 := eq_true p172
 replace q172 := eq_true q172
 have p173 : 0 ≤ (x24_1 : Int) := of_decide_eq_true (by first | (with_reducible assumption) | assumption)
 have q173 : x24_1 < (l0_1.length : Int) := of_decide_eq_true (by first | (with_reducible assumption) | assumption)
 obtain ⟨ad173, A173_7, c173_7, e173, hx173_0, hx173_1, hx173_2, hx173_3, hx173_4, hx173_5, hx173_6, hx173_7, hl173_7, hi173_7⟩ := at_T81 HR0_1.out x24_1 p173 q173
 have hw173_7 := hx173_7
 have hw173_6 := hx173_6
 have hw173_5 := hx173_5
 have hw173_4 := hx173_4
 have hw173_3 := hx173_3
 have hw173_2 := hx173_2
 have hw173_1 := hx173_1
 have hw173_0 := hx173_0
 obtain rfl : ad169 = ad173 := (by injection e173)
 replace hx173_0 := (HB.out.cell (World.block_lt_of_cell? w _ hx173_0)).trans hx173_0
 replace hx173_1 := (HB.out.cell (World.block_lt_of_cell? w _ hx173_1)).trans hx173_1
 replace hx173_2 := (HB.out.cell (World.block_lt_of_cell? w _ hx173_2)).trans hx173_2
 replace hx173_3 := (HB.out.cell (World.block_lt_of_cell? w _ hx173_3)).trans hx173_3
 replace hx173_4 := (HB.out.cell (World.block_lt_of_cell? w _ hx173_4)).trans hx173_4
 replace hx173_5 := (HB.out.cell (World.block_lt_of_cell? w _ hx173_5)).trans hx173_5
 replace hx173_6 := (HB.out.cell (World.block_lt_of_cell? w _ hx173_6)).trans hx173_6
 replace hx173_7 := (HB.out.cell (World.block_lt_of_cell? w _ hx173_7)).trans hx173_7
 have HR173_7 := Aside0.mk hi173_7
 have HC173_7 := Aside0.mk hl173_7
 clear hi173_7 hl173_7
 replace p173 := eq_true p173
 replace q173 := eq_true q173
 have p174 : 0 ≤ ((ji17) : Int) := of_decide_eq_true (by first | (with_reducible assumption) | assumption)
 have q174 : (ji17) < (l0_1.length : Int) := of_decide_eq_true (by first | (with_reducible assumption) | assumption)
 obtain ⟨ad174, A174_7, c174_7, e174, hx174_0, hx174_1, hx174_2, hx174_3, hx174_4, hx174_5, hx174_6, hx174_7, hl174_7, hi174_7⟩ := at_T81 HR0_1.out (ji17) p174 q174
 have hw174_7 := hx174_7
 have hw174_6 := hx174_6
 have hw174_5 := hx174_5
 have hw174_4 := hx174_4
 have hw174_3 := hx174_3
 have hw174_2 := hx174_2
 have hw174_1 := hx174_1
 have hw174_0 := hx174_0
 obtain rfl : ad169 = ad174 := (by injection e174)
 replace hx174_0 := (HB.out.cell (World.block_lt_of_cell? w _ hx174_0)).trans hx174_0
 replace hx174_1 := (HB.out.cell (World.block_lt_of_cell? w _ hx174_1)).trans hx174_1
 replace hx174_2 := (HB.out.cell (World.block_lt_of_cell? w _ hx174_2)).trans hx174_2
 replace hx174_3 := (HB.out.cell (World.block_lt_of_cell? w _ hx174_3)).trans hx174_3
 replace hx174_4 := (HB.out.cell (World.block_lt_of_cell? w _ hx174_4)).trans hx174_4
 replace hx174_5 := (HB.out.cell (World.block_lt_of_cell? w _ hx174_5)).trans hx174_5
 replace hx174_6 := (HB.out.cell (World.block_lt_of_cell? w _ hx174_6)).trans hx174_6
 replace hx174_7 := (HB.out.cell (World.block_lt_of_cell? w _ hx174_7)).trans hx174_7
 have HR174_7 := Aside0.mk hi174_7
 have HC174_7 := Aside0.mk hl174_7
 clear hi174_7 hl174_7
 replace p174 := eq_true p174
 replace q174 := eq_true q174
 have ea_ := Option.some.inj (hx172_7.symm.trans hx174_7)
 injection ea_ with ea_ en_ ec_
 subst ea_
 subst ec_
 clear en_
 refine start_ (n := 34) (S := fun w' => w'.cell? ⟨g0_, 0, none⟩ = some (.int .i64 a0_0) ∧ w'.cell? ⟨g0_, 1, none⟩ = some (.slice (some ad169) l0_1.length c0_1) ∧ w'.cell? (ad169.add (((ji17)).toNat * 8)) = some (.int .i64 ((rd_T81 l0_1 (ji17)).f0)) ∧ w'.cell? ⟨(ad169.add (((ji17)).toNat * 8)).block, (ad169.add (((ji17)).toNat * 8)).off + 1, none⟩ = some (.int .i64 ((rd_T81 l0_1 (ji17)).f1)) ∧ w'.cell? ⟨(ad169.add (((ji17)).toNat * 8)).block, (ad169.add (((ji17)).toNat * 8)).off + 2, none⟩ = some (.int .i64 ((rd_T81 l0_1 (ji17)).f2)) ∧ w'.cell? ⟨(ad169.add (((ji17)).toNat * 8)).block, (ad169.add (((ji17)).toNat * 8)).off + 3, none⟩ = some (.string ((rd_T81 l0_1 (ji17)).f3)) ∧ w'.cell? ⟨(ad169.add (((ji17)).toNat * 8)).block, (ad169.add (((ji17)).toNat * 8)).off + 4, none⟩ = some (.int .i64 ((rd_T81 l0_1 (ji17)).f4)) ∧ w'.cell? ⟨(ad169.add (((ji17)).toNat * 8)).block, (ad169.add (((ji17)).toNat * 8)).off + 5, none⟩ = some (.bool ((rd_T81 l0_1 (ji17)).f5)) ∧ w'.cell? ⟨(ad169.add (((ji17)).toNat * 8)).block, (ad169.add (((ji17)).toNat * 8)).off + 6, none⟩ = some (.int .i64 ((rd_T81 l0_1 (ji17)).f6)) ∧ w'.cell? ⟨(ad169.add (((ji17)).toNat * 8)).block, (ad169.add (((ji17)).toNat * 8)).off + 7, none⟩ = some (.slice A172_7 ((rd_T81 l0_1 (ji17)).f7).length c172_7) ∧ w'.cell? (ad169.add ((x24_1).toNat * 8)) = some (.int .i64 ((rd_T81 l0_1 x24_1).f0)) ∧ w'.cell? ⟨(ad169.add ((x24_1).toNat * 8)).block, (ad169.add ((x24_1).toNat * 8)).off + 1, none⟩ = some (.int .i64 ((rd_T81 l0_1 x24_1).f1)) ∧ w'.cell? ⟨(ad169.add ((x24_1).toNat * 8)).block, (ad169.add ((x24_1).toNat * 8)).off + 2, none⟩ = some (.int .i64 ((rd_T81 l0_1 x24_1).f2)) ∧ w'.cell? ⟨(ad169.add ((x24_1).toNat * 8)).block, (ad169.add ((x24_1).toNat * 8)).off + 3, none⟩ = some (.string ((rd_T81 l0_1 x24_1).f3)) ∧ w'.cell? ⟨(ad169.add ((x24_1).toNat * 8)).block, (ad169.add ((x24_1).toNat * 8)).off + 4, none⟩ = some (.int .i64 ((rd_T81 l0_1 x24_1).f4)) ∧ w'.cell? ⟨(ad169.add ((x24_1).toNat * 8)).block, (ad169.add ((x24_1).toNat * 8)).off + 5, none⟩ = some (.bool ((rd_T81 l0_1 x24_1).f5)) ∧ w'.cell? ⟨(ad169.add ((x24_1).toNat * 8)).block, (ad169.add ((x24_1).toNat * 8)).off + 6, none⟩ = some (.int .i64 ((rd_T81 l0_1 x24_1).f6)) ∧ w'.cell? ⟨(ad169.add ((x24_1).toNat * 8)).block, (ad169.add ((x24_1).toNat * 8)).off + 7, none⟩ = some (.slice A173_7 ((rd_T81 l0_1 x24_1).f7).length c173_7) ∧ w'.cell? (ad169.add (((ji17)).toNat * 8)) = some (.int .i64 ((rd_T81 l0_1 (ji17)).f0)) ∧ w'.cell? ⟨(ad169.add (((ji17)).toNat * 8)).block, (ad169.add (((ji17)).toNat * 8)).off + 1, none⟩ = some (.int .i64 ((rd_T81 l0_1 (ji17)).f1)) ∧ w'.cell? ⟨(ad169.add (((ji17)).toNat * 8)).block, (ad169.add (((ji17)).toNat * 8)).off + 2, none⟩ = some (.int .i64 ((rd_T81 l0_1 (ji17)).f2)) ∧ w'.cell? ⟨(ad169.add (((ji17)).toNat * 8)).block, (ad169.add (((ji17)).toNat * 8)).off + 3, none⟩ = some (.string ((rd_T81 l0_1 (ji17)).f3)) ∧ w'.cell? ⟨(ad169.add (((ji17)).toNat * 8)).block, (ad169.add (((ji17)).toNat * 8)).off + 4, none⟩ = some (.int .i64 ((rd_T81 l0_1 (ji17)).f4)) ∧ w'.cell? ⟨(ad169.add (((ji17)).toNat * 8)).block, (ad169.add (((ji17)).toNat * 8)).off + 5, none⟩ = some (.bool ((rd_T81 l0_1 (ji17)).f5)) ∧ w'.cell? ⟨(ad169.add (((ji17)).toNat * 8)).block, (ad169.add (((ji17)).toNat * 8)).off + 6, none⟩ = some (.int .i64 ((rd_T81 l0_1 (ji17)).f6)) ∧ w'.cell? ⟨(ad169.add (((ji17)).toNat * 8)).block, (ad169.add (((ji17)).toNat * 8)).off + 7, none⟩ = some (.slice A172_7 ((rd_T81 l0_1 (ji17)).f7).length c172_7)) (ds := []) m15_ s2_ rfl rfl ⟨(blk_cell BK0.out 0).trans rfl, (blk_cell BK0.out 1).trans rfl, ((HB.out.cell (World.block_lt_of_cell? w _ hw172_0)).trans hw172_0), ((HB.out.cell (World.block_lt_of_cell? w _ hw172_1)).trans hw172_1), ((HB.out.cell (World.block_lt_of_cell? w _ hw172_2)).trans hw172_2), ((HB.out.cell (World.block_lt_of_cell? w _ hw172_3)).trans hw172_3), ((HB.out.cell (World.block_lt_of_cell? w _ hw172_4)).trans hw172_4), ((HB.out.cell (World.block_lt_of_cell? w _ hw172_5)).trans hw172_5), ((HB.out.cell (World.block_lt_of_cell? w _ hw172_6)).trans hw172_6), ((HB.out.cell (World.block_lt_of_cell? w _ hw172_7)).trans hw172_7), ((HB.out.cell (World.block_lt_of_cell? w _ hw173_0)).trans hw173_0), ((HB.out.cell (World.block_lt_of_cell? w _ hw173_1)).trans hw173_1), ((HB.out.cell (World.block_lt_of_cell? w _ hw173_2)).trans hw173_2), ((HB.out.cell (World.block_lt_of_cell? w _ hw173_3)).trans hw173_3), ((HB.out.cell (World.block_lt_of_cell? w _ hw173_4)).trans hw173_4), ((HB.out.cell (World.block_lt_of_cell? w _ hw173_5)).trans hw173_5), ((HB.out.cell (World.block_lt_of_cell? w _ hw173_6)).trans hw173_6), ((HB.out.cell (World.block_lt_of_cell? w _ hw173_7)).trans hw173_7), ((HB.out.cell (World.block_lt_of_cell? w _ hw174_0)).trans hw174_0), ((HB.out.cell (World.block_lt_of_cell? w _ hw174_1)).trans hw174_1), ((HB.out.cell (World.block_lt_of_cell? w _ hw174_2)).trans hw174_2), ((HB.out.cell (World.block_lt_of_cell? w _ hw174_3)).trans hw174_3), ((HB.out.cell (World.block_lt_of_cell? w _ hw174_4)).trans hw174_4), ((HB.out.cell (World.block_lt_of_cell? w _ hw174_5)).trans hw174_5), ((HB.out.cell (World.block_lt_of_cell? w _ hw174_6)).trans hw174_6), ((HB.out.cell (World.block_lt_of_cell? w _ hw174_7)).trans hw174_7)⟩ (fun hHeld => ?_); refine with_tabW spec_l03Is.tab9 spec_l03Is.bits9 (fun HT_ HW_ => ?_)
 generalize w32.drew = w33 at BK0 HB HR172_7 HR173_7 HR174_7 hx172_0 hx172_1 hx172_2 hx172_3 hx172_4 hx172_5 hx172_6 hx172_7 hx173_0 hx173_1 hx173_2 hx173_3 hx173_4 hx173_5 hx173_6 hx173_7 hx174_0 hx174_1 hx174_2 hx174_3 hx174_4 hx174_5 hx174_6 hx174_7 hHeld ⊢
 refine pu_ 0 47 m16_ (any_of HT_.out s2_) ?_
 refine pu_ 1 48 m17_ (any_of HT_.out s2_) ?_
 refine pu_ 2 49 m18_ (any_of HT_.out s2_) ?_
 refine pu_ 3 50 m19_ (any_of HT_.out s2_) ?_
 refine pu_ 4 51 m20_ (any_of HT_.out s2_) ?_
 refine pu_ 5 52 m21_ (any_of HT_.out s2_) ?_
 refine pu_ 7 54 m22_ (any_of HT_.out s2_) ?_
 refine pu_ 8 55 m23_ (any_of HT_.out s2_) ?_
 refine pu_ 12 59 m24_ (any_of HT_.out s2_) ?_
 refine pu_ 13 60 m25_ (any_of HT_.out s2_) ?_
 refine pu_ 14 61 m26_ (any_of HT_.out s2_) ?_
 refine take_ (i := 6) (N := some 53) (v := ?_) (a' := ?_) m27_ rfl rfl (take_ofW HT_.out HW_.out s2_) (fun _ _ _ h => h) (Or.inl ⟨by rfl, ?_⟩) hHeld ?_ ?_
 rotate_left
 {
 rintro w' ⟨s0, s1, s2, s3, s4, s5, s6, s7, s8, s9, s10, s11, s12, s13, s14, s15, s16, s17, s18, s19, s20, s21, s22, s23, s24, s25⟩
 go_simp
 with_reducible rfl}
 rotate_left
 · exact p1_
 refine pu_ 9 56 m28_ (any_of HT_.out s2_) ?_
 refine pu_ 10 57 m29_ (any_of HT_.out s2_) ?_
 refine take_ (i := 11) (N := some 58) (v := ?_) (a' := ?_) m30_ rfl rfl (take_ofW HT_.out HW_.out s2_) (fun _ _ _ h => h) (Or.inl ⟨by rfl, ?_⟩) hHeld ?_ ?_
 rotate_left
 {
 rintro w' ⟨s0, s1, s2, s3, s4, s5, s6, s7, s8, s9, s10, s11, s12, s13, s14, s15, s16, s17, s18, s19, s20, s21, s22, s23, s24, s25⟩
 go_simp
 with_reducible rfl}
 rotate_left
 · exact p1_
 refine take_ (i := 15) (N := some 62) (v := ?_) (a' := ?_) m31_ rfl rfl (take_ofW HT_.out HW_.out s2_) (fun _ _ _ h => h) (Or.inl ⟨by rfl, ?_⟩) hHeld ?_ ?_
 rotate_left
 {
 rintro w' ⟨s0, s1, s2, s3, s4, s5, s6, s7, s8, s9, s10, s11, s12, s13, s14, s15, s16, s17, s18, s19, s20, s21, s22, s23, s24, s25⟩
 go_simp
 with_reducible rfl}
 rotate_left
 · exact p1_
 refine pu_ 16 63 m32_ (any_of HT_.out s2_) ?_
 refine pu_ 17 64 m33_ (any_of HT_.out s2_) ?_
 refine pu_ 18 65 m34_ (any_of HT_.out s2_) ?_
 refine pu_ 19 66 m35_ (any_of HT_.out s2_) ?_
 refine pu_ 20 67 m36_ (any_of HT_.out s2_) ?_
 refine pu_ 22 69 m50_ (any_of HT_.out s2_) ?_
 refine pu_ 23 70 m51_ (any_of HT_.out s2_) ?_
 refine pu_ 27 74 m52_ (any_of HT_.out s2_) ?_
 refine pu_ 28 75 m53_ (any_of HT_.out s2_) ?_
 refine pu_ 29 76 m54_ (any_of HT_.out s2_) ?_
 refine take_ (i := 21) (N := some 68) (v := ?_) (a' := ?_) m55_ rfl rfl (take_ofW HT_.out HW_.out s2_) (fun _ _ _ h => h) (Or.inl ⟨by rfl, ?_⟩) hHeld ?_ ?_
 rotate_left
 {
 rintro w' ⟨s0, s1, s2, s3, s4, s5, s6, s7, s8, s9, s10, s11, s12, s13, s14, s15, s16, s17, s18, s19, s20, s21, s22, s23, s24, s25⟩
 go_simp
 with_reducible rfl}
 rotate_left
 · exact p1_
 refine pu_ 24 71 m56_ (any_of HT_.out s2_) ?_
 refine pu_ 25 72 m57_ (any_of HT_.out s2_) ?_
 refine take_ (i := 26) (N := some 73) (v := ?_) (a' := ?_) m45_ rfl rfl (take_ofW HT_.out HW_.out s2_) (fun _ _ _ h => h) (Or.inl ⟨by rfl, ?_⟩) hHeld ?_ ?_
 rotate_left
 {
 rintro w' ⟨s0, s1, s2, s3, s4, s5, s6, s7, s8, s9, s10, s11, s12, s13, s14, s15, s16, s17, s18, s19, s20, s21, s22, s23, s24, s25⟩
 go_simp
 with_reducible rfl}
 rotate_left
 · exact p1_
 refine take_ (i := 30) (N := some 77) (v := ?_) (a' := ?_) m46_ rfl rfl (take_ofW HT_.out HW_.out s2_) (fun _ _ _ h => h) (Or.inl ⟨by rfl, ?_⟩) hHeld ?_ ?_
 rotate_left
 {
 rintro w' ⟨s0, s1, s2, s3, s4, s5, s6, s7, s8, s9, s10, s11, s12, s13, s14, s15, s16, s17, s18, s19, s20, s21, s22, s23, s24, s25⟩
 go_simp
 with_reducible rfl}
 rotate_left
 · exact p1_
 refine pu_ 31 78 m47_ (any_of HT_.out s2_) ?_
 refine pu_ 32 79 m48_ (any_of HT_.out s2_) ?_
 refine pu_ 33 80 m49_ (any_of HT_.out s2_) ?_
 refine done_ (done_of HT_.out s2_) ?_
 try go_wp2
 go_roundg k1
 case measure => have := HK1.out; omega
 case rel => exact ⟨(wrap64 (x24_1 + 1)), s1_, H', ⟨by have := HK1.out; omega⟩, ⟨b1_ BK0.out⟩, ⟨by repeat (first | (with_reducible first | exact HB.out | apply below_alloc | apply pw_below_drewN | apply below_drew1 | refine below_set ?_ GE0.out) | exact HB.out)⟩⟩}}}
 {
 rw [if_neg c19] at H
 exact absurd H (by simp)}}
 {
 rw [if_neg c18] at H
 exact absurd H (by simp)}}
 {
 rw [if_neg c16] at H
 have c16b0 : decide (0 < x24_1) = false := decide_eq_false c16
 clear c16
 have H' := Aside0.mk H
 clear H
 have hcz34_0 : wr.cell? ⟨g0_, 0, none⟩ = some (.int .i64 a0_0) := (blk_cell BK0.out 0).trans rfl
 have hcz34_1 : wr.cell? ⟨g0_, 1, none⟩ = some (.slice A0_1 l0_1.length c0_1) := (blk_cell BK0.out 1).trans rfl
 have hfz34_0 := blk_frozen BK0.out 0
 have hfz34_1 := blk_frozen BK0.out 1
 have p169 : 0 ≤ (x24_1 : Int) := of_decide_eq_true (by first | (with_reducible assumption) | assumption)
 have q169 : x24_1 < (l0_1.length : Int) := of_decide_eq_true (by first | (with_reducible assumption) | assumption)
 obtain ⟨ad169, A169_7, c169_7, e169, hx169_0, hx169_1, hx169_2, hx169_3, hx169_4, hx169_5, hx169_6, hx169_7, hl169_7, hi169_7⟩ := at_T81 HR0_1.out x24_1 p169 q169
 cases e169
 replace hx169_0 := (HB.out.cell (World.block_lt_of_cell? w _ hx169_0)).trans hx169_0
 replace hx169_1 := (HB.out.cell (World.block_lt_of_cell? w _ hx169_1)).trans hx169_1
 replace hx169_2 := (HB.out.cell (World.block_lt_of_cell? w _ hx169_2)).trans hx169_2
 replace hx169_3 := (HB.out.cell (World.block_lt_of_cell? w _ hx169_3)).trans hx169_3
 replace hx169_4 := (HB.out.cell (World.block_lt_of_cell? w _ hx169_4)).trans hx169_4
 replace hx169_5 := (HB.out.cell (World.block_lt_of_cell? w _ hx169_5)).trans hx169_5
 replace hx169_6 := (HB.out.cell (World.block_lt_of_cell? w _ hx169_6)).trans hx169_6
 replace hx169_7 := (HB.out.cell (World.block_lt_of_cell? w _ hx169_7)).trans hx169_7
 have HR169_7 := Aside0.mk hi169_7
 have HC169_7 := Aside0.mk hl169_7
 clear hi169_7 hl169_7
 replace p169 := eq_true p169
 replace q169 := eq_true q169
 try go_wp2
 have n0_ := Aside0.mk (blk_drew BK0.out)
 have n1_ := Aside0.mk (below_drew1 HB.out)
 clear BK0
 clear HB
 have BK0 := n0_
 have HB := n1_
 clear n0_ n1_
 have p171 : 0 ≤ (x24_1 : Int) := of_decide_eq_true (by first | (with_reducible assumption) | assumption)
 have q171 : x24_1 < (l0_1.length : Int) := of_decide_eq_true (by first | (with_reducible assumption) | assumption)
 obtain ⟨ad171, A171_7, c171_7, e171, hx171_0, hx171_1, hx171_2, hx171_3, hx171_4, hx171_5, hx171_6, hx171_7, hl171_7, hi171_7⟩ := at_T81 HR0_1.out x24_1 p171 q171
 have hw171_7 := hx171_7
 have hw171_6 := hx171_6
 have hw171_5 := hx171_5
 have hw171_4 := hx171_4
 have hw171_3 := hx171_3
 have hw171_2 := hx171_2
 have hw171_1 := hx171_1
 have hw171_0 := hx171_0
 obtain rfl : ad169 = ad171 := (by injection e171)
 replace hx171_0 := (HB.out.cell (World.block_lt_of_cell? w _ hx171_0)).trans hx171_0
 replace hx171_1 := (HB.out.cell (World.block_lt_of_cell? w _ hx171_1)).trans hx171_1
 replace hx171_2 := (HB.out.cell (World.block_lt_of_cell? w _ hx171_2)).trans hx171_2
 replace hx171_3 := (HB.out.cell (World.block_lt_of_cell? w _ hx171_3)).trans hx171_3
 replace hx171_4 := (HB.out.cell (World.block_lt_of_cell? w _ hx171_4)).trans hx171_4
 replace hx171_5 := (HB.out.cell (World.block_lt_of_cell? w _ hx171_5)).trans hx171_5
 replace hx171_6 := (HB.out.cell (World.block_lt_of_cell? w _ hx171_6)).trans hx171_6
 replace hx171_7 := (HB.out.cell (World.block_lt_of_cell? w _ hx171_7)).trans hx171_7
 have HR171_7 := Aside0.mk hi171_7
 have HC171_7 := Aside0.mk hl171_7
 clear hi171_7 hl171_7
 replace p171 := eq_true p171
 replace q171 := eq_true q171
 refine start_ (n := 14) (S := fun w' => w'.cell? ⟨g0_, 0, none⟩ = some (.int .i64 a0_0) ∧ w'.cell? ⟨g0_, 1, none⟩ = some (.slice (some ad169) l0_1.length c0_1) ∧ w'.cell? (ad169.add ((x24_1).toNat * 8)) = some (.int .i64 ((rd_T81 l0_1 x24_1).f0)) ∧ w'.cell? ⟨(ad169.add ((x24_1).toNat * 8)).block, (ad169.add ((x24_1).toNat * 8)).off + 1, none⟩ = some (.int .i64 ((rd_T81 l0_1 x24_1).f1)) ∧ w'.cell? ⟨(ad169.add ((x24_1).toNat * 8)).block, (ad169.add ((x24_1).toNat * 8)).off + 2, none⟩ = some (.int .i64 ((rd_T81 l0_1 x24_1).f2)) ∧ w'.cell? ⟨(ad169.add ((x24_1).toNat * 8)).block, (ad169.add ((x24_1).toNat * 8)).off + 3, none⟩ = some (.string ((rd_T81 l0_1 x24_1).f3)) ∧ w'.cell? ⟨(ad169.add ((x24_1).toNat * 8)).block, (ad169.add ((x24_1).toNat * 8)).off + 4, none⟩ = some (.int .i64 ((rd_T81 l0_1 x24_1).f4)) ∧ w'.cell? ⟨(ad169.add ((x24_1).toNat * 8)).block, (ad169.add ((x24_1).toNat * 8)).off + 5, none⟩ = some (.bool ((rd_T81 l0_1 x24_1).f5)) ∧ w'.cell? ⟨(ad169.add ((x24_1).toNat * 8)).block, (ad169.add ((x24_1).toNat * 8)).off + 6, none⟩ = some (.int .i64 ((rd_T81 l0_1 x24_1).f6)) ∧ w'.cell? ⟨(ad169.add ((x24_1).toNat * 8)).block, (ad169.add ((x24_1).toNat * 8)).off + 7, none⟩ = some (.slice A171_7 ((rd_T81 l0_1 x24_1).f7).length c171_7)) (ds := []) m0_ s2_ rfl rfl ⟨(blk_cell BK0.out 0).trans rfl, (blk_cell BK0.out 1).trans rfl, ((HB.out.cell (World.block_lt_of_cell? w _ hw171_0)).trans hw171_0), ((HB.out.cell (World.block_lt_of_cell? w _ hw171_1)).trans hw171_1), ((HB.out.cell (World.block_lt_of_cell? w _ hw171_2)).trans hw171_2), ((HB.out.cell (World.block_lt_of_cell? w _ hw171_3)).trans hw171_3), ((HB.out.cell (World.block_lt_of_cell? w _ hw171_4)).trans hw171_4), ((HB.out.cell (World.block_lt_of_cell? w _ hw171_5)).trans hw171_5), ((HB.out.cell (World.block_lt_of_cell? w _ hw171_6)).trans hw171_6), ((HB.out.cell (World.block_lt_of_cell? w _ hw171_7)).trans hw171_7)⟩ (fun hHeld => ?_); refine with_tabW spec_l03Is.tab7 spec_l03Is.bits7 (fun HT_ HW_ => ?_)
 generalize wr.drew = w35 at BK0 HB HR171_7 hx171_0 hx171_1 hx171_2 hx171_3 hx171_4 hx171_5 hx171_6 hx171_7 hHeld ⊢
 refine pu_ 0 33 m1_ (any_of HT_.out s2_) ?_
 refine one_ (i := 1) (N := some 34) m2_ rfl rfl (one_of HT_.out s2_) (by decide) (fun K hK => ?_)
 refine goes_ Try.func57 s2_ rfl #[.pointer (some (ad169.add ((x24_1).toNat * 8)))] (by rfl) rfl rfl s3_ ?_
 with_reducible refine (spec_l03Message_v0.calls k1 ad169 c0_1 l0_1 x24_1 true _ ?side1 ?side2 A10.out).mono ?_
 (case side1 => repeat (first | exact (Kd.C_below HR0_1.out HB.out) | (with_reducible refine Kd.C_alloc ?_ _) | (with_reducible refine Kd.C_drewN ?_ _) | (with_reducible refine Kd.C_drew ?_)))
 (case side2 => exact HC0_1.out)
 rintro e w36 ⟨rfl, hb⟩
 refine ⟨_, rfl, ?_⟩
 have n0_ := Aside0.mk (blk_below (g := g0_) (o := .cells #[.int .i64 a0_0, .slice (some ad169) l0_1.length c0_1] 38 (0, 0)) (b1_ BK0.out) hb)
 have n1_ := Aside0.mk (below_step (by repeat (first | (with_reducible first | exact HB.out | apply below_alloc | apply pw_below_drewN | apply below_drew1 | refine below_set ?_ GE0.out) | exact HB.out)) hb)
 clear BK0
 clear HB
 have BK0 := n0_
 have HB := n1_
 clear n0_ n1_
 (try clear hb)
 (try clear hb2)
 (try clear hk)
 (try clear hi)
 refine hK.out _ _ ⟨(blk_cell BK0.out 0).trans rfl, (blk_cell BK0.out 1).trans rfl, ((HB.out.cell (World.block_lt_of_cell? w _ hw171_0)).trans hw171_0), ((HB.out.cell (World.block_lt_of_cell? w _ hw171_1)).trans hw171_1), ((HB.out.cell (World.block_lt_of_cell? w _ hw171_2)).trans hw171_2), ((HB.out.cell (World.block_lt_of_cell? w _ hw171_3)).trans hw171_3), ((HB.out.cell (World.block_lt_of_cell? w _ hw171_4)).trans hw171_4), ((HB.out.cell (World.block_lt_of_cell? w _ hw171_5)).trans hw171_5), ((HB.out.cell (World.block_lt_of_cell? w _ hw171_6)).trans hw171_6), ((HB.out.cell (World.block_lt_of_cell? w _ hw171_7)).trans hw171_7)⟩ (fun hHeld => ?_)
 clear hK K
 refine norm_ (a' := ?_) ?_ ?_
 rotate_left
 {
 show Act.put _ (some 34) _ = _
 simp only [Act.put, List.setIfInBounds_toArray, List.set_cons_zero, List.set_cons_succ, i64_w, i32_w]
 rfl}
 refine pu_ 2 35 m3_ (any_of HT_.out s2_) ?_
 refine pu_ 3 36 m4_ (any_of HT_.out s2_) ?_
 refine pu_ 4 37 m5_ (any_of HT_.out s2_) ?_
 refine pu_ 5 38 m6_ (any_of HT_.out s2_) ?_
 refine pu_ 6 39 m7_ (any_of HT_.out s2_) ?_
 refine pu_ 8 41 m8_ (any_of HT_.out s2_) ?_
 refine pu_ 9 42 m9_ (any_of HT_.out s2_) ?_
 refine pu_ 10 43 m10_ (any_of HT_.out s2_) ?_
 refine take_ (i := 7) (N := some 40) (v := ?_) (a' := ?_) m11_ rfl rfl (take_ofW HT_.out HW_.out s2_) (fun _ _ _ h => h) (Or.inl ⟨by rfl, ?_⟩) hHeld ?_ ?_
 rotate_left
 {
 rintro w' ⟨s0, s1, s2, s3, s4, s5, s6, s7, s8, s9⟩
 go_simp
 with_reducible rfl}
 rotate_left
 · exact p1_
 refine take_ (i := 11) (N := some 44) (v := ?_) (a' := ?_) m12_ rfl rfl (take_ofW HT_.out HW_.out s2_) (fun _ _ _ h => h) (Or.inl ⟨by rfl, ?_⟩) hHeld ?_ ?_
 rotate_left
 {
 rintro w' ⟨s0, s1, s2, s3, s4, s5, s6, s7, s8, s9⟩
 go_simp
 with_reducible rfl}
 rotate_left
 · exact p1_
 refine pu_ 12 45 m13_ (any_of HT_.out s2_) ?_
 refine pu_ 13 46 m14_ (any_of HT_.out s2_) ?_
 refine done_ (done_of HT_.out s2_) ?_
 try go_wp2
 have n0_ := Aside0.mk (blk_drew BK0.out)
 have n1_ := Aside0.mk (below_drew1 HB.out)
 clear BK0
 clear HB
 have BK0 := n0_
 have HB := n1_
 clear n0_ n1_
 refine start_ (n := 34) (S := fun w' => True) (ds := []) m15_ s2_ rfl rfl trivial (fun hHeld => ?_); refine with_tabW spec_l03Is.tab9 spec_l03Is.bits9 (fun HT_ HW_ => ?_)
 generalize w36.drew = w37 at BK0 HB hHeld ⊢
 refine pu_ 0 47 m16_ (any_of HT_.out s2_) ?_
 refine pu_ 1 48 m17_ (any_of HT_.out s2_) ?_
 refine pu_ 2 49 m18_ (any_of HT_.out s2_) ?_
 refine pn_ 3 50 m19_ (any_of HT_.out s2_) ?_
 refine pn_ 4 51 m20_ (any_of HT_.out s2_) ?_
 refine pn_ 5 52 m21_ (any_of HT_.out s2_) ?_
 refine pn_ 6 53 #[T,T,T,T,T,T,T,F,F,F,F,F,F,F,F,F,F,F,F,F,F,F,F,F,F,F,F,F,F,F,F,F,F,F] (any_of HT_.out s2_) ?_
 refine pn_ 7 54 #[T,T,T,T,T,T,T,T,F,F,F,F,F,F,F,F,F,F,F,F,F,F,F,F,F,F,F,F,F,F,F,F,F,F] (any_of HT_.out s2_) ?_
 refine pn_ 8 55 #[T,T,T,T,T,T,T,T,T,F,F,F,F,F,F,F,F,F,F,F,F,F,F,F,F,F,F,F,F,F,F,F,F,F] (any_of HT_.out s2_) ?_
 refine pn_ 9 56 #[T,T,T,T,T,T,T,T,T,T,F,F,F,F,F,F,F,F,F,F,F,F,F,F,F,F,F,F,F,F,F,F,F,F] (any_of HT_.out s2_) ?_
 refine pn_ 10 57 #[T,T,T,T,T,T,T,T,T,T,T,F,F,F,F,F,F,F,F,F,F,F,F,F,F,F,F,F,F,F,F,F,F,F] (any_of HT_.out s2_) ?_
 refine pn_ 11 58 #[T,T,T,T,T,T,T,T,T,T,T,T,F,F,F,F,F,F,F,F,F,F,F,F,F,F,F,F,F,F,F,F,F,F] (any_of HT_.out s2_) ?_
 refine pn_ 12 59 #[T,T,T,T,T,T,T,T,T,T,T,T,T,F,F,F,F,F,F,F,F,F,F,F,F,F,F,F,F,F,F,F,F,F] (any_of HT_.out s2_) ?_
 refine pn_ 13 60 #[T,T,T,T,T,T,T,T,T,T,T,T,T,T,F,F,F,F,F,F,F,F,F,F,F,F,F,F,F,F,F,F,F,F] (any_of HT_.out s2_) ?_
 refine pn_ 14 61 m30_ (any_of HT_.out s2_) ?_
 refine pn_ 15 62 m31_ (any_of HT_.out s2_) ?_
 refine pn_ 16 63 m32_ (any_of HT_.out s2_) ?_
 refine pn_ 17 64 m33_ (any_of HT_.out s2_) ?_
 refine pn_ 18 65 m34_ (any_of HT_.out s2_) ?_
 refine pn_ 19 66 m35_ (any_of HT_.out s2_) ?_
 refine pn_ 20 67 m36_ (any_of HT_.out s2_) ?_
 refine pn_ 21 68 m37_ (any_of HT_.out s2_) ?_
 refine pn_ 22 69 m38_ (any_of HT_.out s2_) ?_
 refine pn_ 23 70 m39_ (any_of HT_.out s2_) ?_
 refine pn_ 24 71 m40_ (any_of HT_.out s2_) ?_
 refine pn_ 25 72 m41_ (any_of HT_.out s2_) ?_
 refine pn_ 26 73 m42_ (any_of HT_.out s2_) ?_
 refine pn_ 27 74 m43_ (any_of HT_.out s2_) ?_
 refine pn_ 28 75 m44_ (any_of HT_.out s2_) ?_
 refine pn_ 29 76 m45_ (any_of HT_.out s2_) ?_
 refine pn_ 30 77 m46_ (any_of HT_.out s2_) ?_
 refine pn_ 31 78 m47_ (any_of HT_.out s2_) ?_
 refine pn_ 32 79 m48_ (any_of HT_.out s2_) ?_
 refine pu_ 33 80 m49_ (any_of HT_.out s2_) ?_
 refine done_ (done_of HT_.out s2_) ?_
 try go_wp2
 go_roundg k1
 case measure => have := HK1.out; omega
 case rel => exact ⟨(wrap64 (x24_1 + 1)), s1_, H', ⟨by have := HK1.out; omega⟩, ⟨b1_ BK0.out⟩, ⟨by repeat (first | (with_reducible first | exact HB.out | apply below_alloc | apply pw_below_drewN | apply below_drew1 | refine below_set ?_ GE0.out) | exact HB.out)⟩⟩}}}
 {
 replace c11 := Bool.eq_false_iff.mpr c11
 subst c11
 have H1 : (some false) = some r := by rw [if_neg (show ¬ (false = true) by decide)] at H; exact H
 clear H
 have H := H1
 clear H1
 obtain rfl := Option.some.inj H
 have hcz38_0 : wr.cell? ⟨g0_, 0, none⟩ = some (.int .i64 a0_0) := (blk_cell BK0.out 0).trans rfl
 have hcz38_1 : wr.cell? ⟨g0_, 1, none⟩ = some (.slice A0_1 l0_1.length c0_1) := (blk_cell BK0.out 1).trans rfl
 have hfz38_0 := blk_frozen BK0.out 0
 have hfz38_1 := blk_frozen BK0.out 1
 have p169 : 0 ≤ (x24_1 : Int) := of_decide_eq_true (by first | (with_reducible assumption) | assumption)
 have q169 : x24_1 < (l0_1.length : Int) := of_decide_eq_true (by first | (with_reducible assumption) | assumption)
 obtain ⟨ad169, A169_7, c169_7, e169, hx169_0, hx169_1, hx169_2, hx169_3, hx169_4, hx169_5, hx169_6, hx169_7, hl169_7, hi169_7⟩ := at_T81 HR0_1.out x24_1 p169 q169
 cases e169
 replace hx169_0 := (HB.out.cell (World.block_lt_of_cell? w _ hx169_0)).trans hx169_0
 replace hx169_1 := (HB.out.cell (World.block_lt_of_cell? w _ hx169_1)).trans hx169_1
 replace hx169_2 := (HB.out.cell (World.block_lt_of_cell? w _ hx169_2)).trans hx169_2
 replace hx169_3 := (HB.out.cell (World.block_lt_of_cell? w _ hx169_3)).trans hx169_3
 replace hx169_4 := (HB.out.cell (World.block_lt_of_cell? w _ hx169_4)).trans hx169_4
 replace hx169_5 := (HB.out.cell (World.block_lt_of_cell? w _ hx169_5)).trans hx169_5
 replace hx169_6 := (HB.out.cell (World.block_lt_of_cell? w _ hx169_6)).trans hx169_6
 replace hx169_7 := (HB.out.cell (World.block_lt_of_cell? w _ hx169_7)).trans hx169_7
 have HR169_7 := Aside0.mk hi169_7
 have HC169_7 := Aside0.mk hl169_7
 clear hi169_7 hl169_7
 replace p169 := eq_true p169
 replace q169 := eq_true q169
 try go_wp2
 have n0_ := Aside0.mk (blk_drew BK0.out)
 have n1_ := Aside0.mk (below_drew1 HB.out)
 clear BK0
 clear HB
 have BK0 := n0_
 have HB := n1_
 clear n0_ n1_
 refine start_ (n := 14) (S := fun w' => True) (ds := []) m0_ s2_ rfl rfl trivial (fun hHeld => ?_); refine with_tabW spec_l03Is.tab7 spec_l03Is.bits7 (fun HT_ HW_ => ?_)
 generalize wr.drew = w39 at BK0 HB hHeld ⊢
 refine pu_ 0 33 m1_ (any_of HT_.out s2_) ?_
 refine one_ (i := 1) (N := some 34) m2_ rfl rfl (one_of HT_.out s2_) (by decide) (fun K hK => ?_)
 refine goes_ Try.func57 s2_ rfl #[.pointer (some (ad169.add ((x24_1).toNat * 8)))] (by rfl) rfl rfl s3_ ?_
 with_reducible refine (spec_l03Message_v0.calls k1 ad169 c0_1 l0_1 x24_1 false _ ?side1 ?side2 A10.out).mono ?_
 (case side1 => repeat (first | exact (Kd.C_below HR0_1.out HB.out) | (with_reducible refine Kd.C_alloc ?_ _) | (with_reducible refine Kd.C_drewN ?_ _) | (with_reducible refine Kd.C_drew ?_)))
 (case side2 => exact HC0_1.out)
 rintro e w40 ⟨rfl, hb⟩
 refine ⟨_, rfl, ?_⟩
 have n0_ := Aside0.mk (blk_below (g := g0_) (o := .cells #[.int .i64 a0_0, .slice (some ad169) l0_1.length c0_1] 38 (0, 0)) (b1_ BK0.out) hb)
 have n1_ := Aside0.mk (below_step (by repeat (first | (with_reducible first | exact HB.out | apply below_alloc | apply pw_below_drewN | apply below_drew1 | refine below_set ?_ GE0.out) | exact HB.out)) hb)
 clear BK0
 clear HB
 have BK0 := n0_
 have HB := n1_
 clear n0_ n1_
 (try clear hb)
 (try clear hb2)
 (try clear hk)
 (try clear hi)
 refine hK.out _ _ trivial (fun hHeld => ?_)
 clear hK K
 refine norm_ (a' := ?_) ?_ ?_
 rotate_left
 {
 show Act.put _ (some 34) _ = _
 simp only [Act.put, List.setIfInBounds_toArray, List.set_cons_zero, List.set_cons_succ, i64_w, i32_w]
 rfl}
 refine pu_ 2 35 m3_ (any_of HT_.out s2_) ?_
 refine pu_ 3 36 m4_ (any_of HT_.out s2_) ?_
 refine pn_ 4 37 m5_ (any_of HT_.out s2_) ?_
 refine pn_ 5 38 m6_ (any_of HT_.out s2_) ?_
 refine pn_ 6 39 m7_ (any_of HT_.out s2_) ?_
 refine pn_ 7 40 #[T,T,T,T,T,T,T,T,F,F,F,F,F,F] (any_of HT_.out s2_) ?_
 refine pn_ 8 41 #[T,T,T,T,T,T,T,T,T,F,F,F,F,F] (any_of HT_.out s2_) ?_
 refine pn_ 9 42 #[T,T,T,T,T,T,T,T,T,T,F,F,F,F] (any_of HT_.out s2_) ?_
 refine pn_ 10 43 m11_ (any_of HT_.out s2_) ?_
 refine pn_ 11 44 m12_ (any_of HT_.out s2_) ?_
 refine pn_ 12 45 m13_ (any_of HT_.out s2_) ?_
 refine pu_ 13 46 m14_ (any_of HT_.out s2_) ?_
 refine done_ (done_of HT_.out s2_) ?_
 try go_wp2
 go_ret
 exact ⟨by first | rfl | (simp [errW_none, errW_some] <;> rfl) | (simp [*, errW_none, errW_some] <;> rfl), by repeat (first | (with_reducible first | exact HB.out | apply below_alloc | apply pw_below_drewN | apply below_drew1 | refine below_set ?_ GE0.out) | exact HB.out)⟩}}
 {
 rw [if_neg c9] at H
 exact absurd H (by simp)}}
 {
 rw [if_neg c8] at H
 exact absurd H (by simp)}}
 {
 rw [if_neg c7] at H
 have c7b0 : decide (x24_1 < (l0_1.length : Int)) = false := decide_eq_false c7
 clear c7
 obtain rfl := Option.some.inj H
 go_wp2
 go_ret
 exact ⟨by first | rfl | (simp [errW_none, errW_some] <;> rfl) | (simp [*, errW_none, errW_some] <;> rfl), by repeat (first | (with_reducible first | exact HB.out | apply below_alloc | apply pw_below_drewN | apply below_drew1 | refine below_set ?_ GE0.out) | exact HB.out)⟩}}}}
 {
 replace c5 := Bool.eq_false_iff.mpr c5
 subst c5
 have H1 : (some false) = some r := by rw [if_neg (show ¬ (false = true) by decide)] at H; exact H
 clear H
 have H := H1
 clear H1
 obtain rfl := Option.some.inj H
 have hcz41_0 : w.cell? ⟨g0_, 0, none⟩ = some (.int .i64 a0_0) := (blk_cell BK0.out 0).trans rfl
 have hcz41_1 : w.cell? ⟨g0_, 1, none⟩ = some (.slice A0_1 l0_1.length c0_1) := (blk_cell BK0.out 1).trans rfl
 have hfz41_0 := blk_frozen BK0.out 0
 have hfz41_1 := blk_frozen BK0.out 1
 go_enter Try.func36, Try.ntmps36
 go_wp2_with (first | (go_at_call 52; (with_reducible refine (spec_l00In.calls a0_0 1 1000000000 false _ A4.out).mono ?_); rintro e w' ⟨rfl, ⟨nd, rfl⟩⟩))
 go_ret
 exact ⟨by first | rfl | (simp [errW_none, errW_some] <;> rfl) | (simp [*, errW_none, errW_some] <;> rfl), by repeat (first | (with_reducible first | exact HB.out | apply below_alloc | apply pw_below_drewN | apply below_drew1 | refine below_set ?_ GE0.out) | exact HB.out)⟩}}

end Go.Proofs.Ytgmbgpjebpgpkaa.QFnExactRootOf
