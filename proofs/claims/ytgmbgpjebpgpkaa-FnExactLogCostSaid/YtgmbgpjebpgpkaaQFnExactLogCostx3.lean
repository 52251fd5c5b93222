-- written by a program of this session, on the lines of the kit's print
import Derived.Test.YtgmbgpjebpgpkaaQFnExactLogCostx0
import Derived.Test.YtgmbgpjebpgpkaaQFnExactLogCostx1
import Derived.Test.YtgmbgpjebpgpkaaQFnExactLogCostx2
namespace Go.Proofs.Ytgmbgpjebpgpkaa.QFnExactLogCost
open Go.RowKit Go.Proofs.YtgmbgpjebpgpkaaW.PrintWords Go.Proofs.YtgmbgpjebpgpkaaW.PrintLast Go.Proofs.YtgmbgpjebpgpkaaW.PrintMore
attribute [local go_sem] max2_int min2_int max_two min_two max_three min_three max_four min_four   -- for this text's walks alone
set_option linter.unusedVariables false
set_option linter.unusedSimpArgs false

theorem cellS38_0 {W : World} {g : Nat} {A1 : Option Addr} {c1 : Nat} {f0 : Int} {f1 : List (S81)} (h : W.heap[g]? = some (.cells #[.int .i64 f0, .slice A1 f1.length c1] 38 (0, 0))) : W.cell? ⟨g, 0, none⟩ = some (.int .i64 f0) := (blk_cell h 0).trans rfl
theorem cellS38_1 {W : World} {g : Nat} {A1 : Option Addr} {c1 : Nat} {f0 : Int} {f1 : List (S81)} (h : W.heap[g]? = some (.cells #[.int .i64 f0, .slice A1 f1.length c1] 38 (0, 0))) : W.cell? ⟨g, 1, none⟩ = some (.slice A1 f1.length c1) := (blk_cell h 1).trans rfl
/-! ### spec_l03Is: function 36 -/
abbrev spec_l03Is.T : Bool := true
abbrev spec_l03Is.F : Bool := false
theorem spec_l03Is.s1_ {P : Prop} (h : P := by first | rfl | (simp; done) | (simp [*]; done)) : P := h
theorem spec_l03Is.s2_ {P : Prop} (h : P := by kernel_rfl) : P := h
theorem spec_l03Is.s3_ {P : Prop} (h : P := by (try simp only [List.map_toArray, List.map_cons, List.map_nil]); first | done | rfl | (simp only [List.length_drop, List.length_take]; rfl)) : P := h
abbrev spec_l03Is.m0_ : Array Bool := #[F,F,F,F,F,F,F,F,F,F,F,F,F,F]
abbrev spec_l03Is.m1_ : Array Bool := #[T,F,F,F,F,F,F,F,F,F,F,F,F,F]
abbrev spec_l03Is.m2_ : Array Bool := #[T,T,F,F,F,F,F,F,F,F,F,F,F,F]
abbrev spec_l03Is.m3_ : Array Bool := #[T,T,T,F,F,F,F,F,F,F,F,F,F,F]
abbrev spec_l03Is.m4_ : Array Bool := #[T,T,T,T,F,F,F,F,F,F,F,F,F,F]
abbrev spec_l03Is.m5_ : Array Bool := #[T,T,T,T,T,F,F,F,F,F,F,F,F,F]
abbrev spec_l03Is.m6_ : Array Bool := #[T,T,T,T,T,T,F,F,F,F,F,F,F,F]
abbrev spec_l03Is.m7_ : Array Bool := #[T,T,T,T,T,T,T,F,F,F,F,F,F,F]
abbrev spec_l03Is.m8_ : Array Bool := #[T,T,T,T,T,T,T,F,T,F,F,F,F,F]
abbrev spec_l03Is.m9_ : Array Bool := #[T,T,T,T,T,T,T,F,T,T,F,F,F,F]
abbrev spec_l03Is.m10_ : Array Bool := #[T,T,T,T,T,T,T,F,T,T,T,F,F,F]
abbrev spec_l03Is.m11_ : Array Bool := #[T,T,T,T,T,T,T,T,T,T,T,F,F,F]
abbrev spec_l03Is.m12_ : Array Bool := #[T,T,T,T,T,T,T,T,T,T,T,T,F,F]
abbrev spec_l03Is.m13_ : Array Bool := #[T,T,T,T,T,T,T,T,T,T,T,T,T,F]
abbrev spec_l03Is.m14_ : Array Bool := #[T,T,T,T,T,T,T,T,T,T,T,T,T,T]
abbrev spec_l03Is.m15_ : Array Bool := #[F,F,F,F,F,F,F,F,F,F,F,F,F,F,F,F,F,F,F,F,F,F,F,F,F,F,F,F,F,F,F,F,F,F]
abbrev spec_l03Is.m16_ : Array Bool := #[T,F,F,F,F,F,F,F,F,F,F,F,F,F,F,F,F,F,F,F,F,F,F,F,F,F,F,F,F,F,F,F,F,F]
abbrev spec_l03Is.m17_ : Array Bool := #[T,T,F,F,F,F,F,F,F,F,F,F,F,F,F,F,F,F,F,F,F,F,F,F,F,F,F,F,F,F,F,F,F,F]
abbrev spec_l03Is.m18_ : Array Bool := #[T,T,T,F,F,F,F,F,F,F,F,F,F,F,F,F,F,F,F,F,F,F,F,F,F,F,F,F,F,F,F,F,F,F]
abbrev spec_l03Is.m19_ : Array Bool := #[T,T,T,T,F,F,F,F,F,F,F,F,F,F,F,F,F,F,F,F,F,F,F,F,F,F,F,F,F,F,F,F,F,F]
abbrev spec_l03Is.m20_ : Array Bool := #[T,T,T,T,T,F,F,F,F,F,F,F,F,F,F,F,F,F,F,F,F,F,F,F,F,F,F,F,F,F,F,F,F,F]
abbrev spec_l03Is.m21_ : Array Bool := #[T,T,T,T,T,T,F,F,F,F,F,F,F,F,F,F,F,F,F,F,F,F,F,F,F,F,F,F,F,F,F,F,F,F]
abbrev spec_l03Is.m22_ : Array Bool := #[T,T,T,T,T,T,F,T,F,F,F,F,F,F,F,F,F,F,F,F,F,F,F,F,F,F,F,F,F,F,F,F,F,F]
abbrev spec_l03Is.m23_ : Array Bool := #[T,T,T,T,T,T,F,T,T,F,F,F,F,F,F,F,F,F,F,F,F,F,F,F,F,F,F,F,F,F,F,F,F,F]
abbrev spec_l03Is.m24_ : Array Bool := #[T,T,T,T,T,T,F,T,T,F,F,F,T,F,F,F,F,F,F,F,F,F,F,F,F,F,F,F,F,F,F,F,F,F]
abbrev spec_l03Is.m25_ : Array Bool := #[T,T,T,T,T,T,F,T,T,F,F,F,T,T,F,F,F,F,F,F,F,F,F,F,F,F,F,F,F,F,F,F,F,F]
abbrev spec_l03Is.m26_ : Array Bool := #[T,T,T,T,T,T,F,T,T,F,F,F,T,T,T,F,F,F,F,F,F,F,F,F,F,F,F,F,F,F,F,F,F,F]
abbrev spec_l03Is.m27_ : Array Bool := #[T,T,T,T,T,T,T,T,T,F,F,F,T,T,T,F,F,F,F,F,F,F,F,F,F,F,F,F,F,F,F,F,F,F]
abbrev spec_l03Is.m28_ : Array Bool := #[T,T,T,T,T,T,T,T,T,T,F,F,T,T,T,F,F,F,F,F,F,F,F,F,F,F,F,F,F,F,F,F,F,F]
abbrev spec_l03Is.m29_ : Array Bool := #[T,T,T,T,T,T,T,T,T,T,T,F,T,T,T,F,F,F,F,F,F,F,F,F,F,F,F,F,F,F,F,F,F,F]
abbrev spec_l03Is.m30_ : Array Bool := #[T,T,T,T,T,T,T,T,T,T,T,T,T,T,T,F,F,F,F,F,F,F,F,F,F,F,F,F,F,F,F,F,F,F]
abbrev spec_l03Is.m31_ : Array Bool := #[T,T,T,T,T,T,T,T,T,T,T,T,T,T,T,T,F,F,F,F,F,F,F,F,F,F,F,F,F,F,F,F,F,F]
abbrev spec_l03Is.m32_ : Array Bool := #[T,T,T,T,T,T,T,T,T,T,T,T,T,T,T,T,T,F,F,F,F,F,F,F,F,F,F,F,F,F,F,F,F,F]
abbrev spec_l03Is.m33_ : Array Bool := #[T,T,T,T,T,T,T,T,T,T,T,T,T,T,T,T,T,T,F,F,F,F,F,F,F,F,F,F,F,F,F,F,F,F]
abbrev spec_l03Is.m34_ : Array Bool := #[T,T,T,T,T,T,T,T,T,T,T,T,T,T,T,T,T,T,T,F,F,F,F,F,F,F,F,F,F,F,F,F,F,F]
abbrev spec_l03Is.m35_ : Array Bool := #[T,T,T,T,T,T,T,T,T,T,T,T,T,T,T,T,T,T,T,T,F,F,F,F,F,F,F,F,F,F,F,F,F,F]
abbrev spec_l03Is.m36_ : Array Bool := #[T,T,T,T,T,T,T,T,T,T,T,T,T,T,T,T,T,T,T,T,T,F,F,F,F,F,F,F,F,F,F,F,F,F]
abbrev spec_l03Is.m37_ : Array Bool := #[T,T,T,T,T,T,T,T,T,T,T,T,T,T,T,T,T,T,T,T,T,T,F,F,F,F,F,F,F,F,F,F,F,F]
abbrev spec_l03Is.m38_ : Array Bool := #[T,T,T,T,T,T,T,T,T,T,T,T,T,T,T,T,T,T,T,T,T,T,T,F,F,F,F,F,F,F,F,F,F,F]
abbrev spec_l03Is.m39_ : Array Bool := #[T,T,T,T,T,T,T,T,T,T,T,T,T,T,T,T,T,T,T,T,T,T,T,T,F,F,F,F,F,F,F,F,F,F]
abbrev spec_l03Is.m40_ : Array Bool := #[T,T,T,T,T,T,T,T,T,T,T,T,T,T,T,T,T,T,T,T,T,T,T,T,T,F,F,F,F,F,F,F,F,F]
abbrev spec_l03Is.m41_ : Array Bool := #[T,T,T,T,T,T,T,T,T,T,T,T,T,T,T,T,T,T,T,T,T,T,T,T,T,T,F,F,F,F,F,F,F,F]
abbrev spec_l03Is.m42_ : Array Bool := #[T,T,T,T,T,T,T,T,T,T,T,T,T,T,T,T,T,T,T,T,T,T,T,T,T,T,T,F,F,F,F,F,F,F]
abbrev spec_l03Is.m43_ : Array Bool := #[T,T,T,T,T,T,T,T,T,T,T,T,T,T,T,T,T,T,T,T,T,T,T,T,T,T,T,T,F,F,F,F,F,F]
abbrev spec_l03Is.m44_ : Array Bool := #[T,T,T,T,T,T,T,T,T,T,T,T,T,T,T,T,T,T,T,T,T,T,T,T,T,T,T,T,T,F,F,F,F,F]
abbrev spec_l03Is.m45_ : Array Bool := #[T,T,T,T,T,T,T,T,T,T,T,T,T,T,T,T,T,T,T,T,T,T,T,T,T,T,T,T,T,T,F,F,F,F]
abbrev spec_l03Is.m46_ : Array Bool := #[T,T,T,T,T,T,T,T,T,T,T,T,T,T,T,T,T,T,T,T,T,T,T,T,T,T,T,T,T,T,T,F,F,F]
abbrev spec_l03Is.m47_ : Array Bool := #[T,T,T,T,T,T,T,T,T,T,T,T,T,T,T,T,T,T,T,T,T,T,T,T,T,T,T,T,T,T,T,T,F,F]
abbrev spec_l03Is.m48_ : Array Bool := #[T,T,T,T,T,T,T,T,T,T,T,T,T,T,T,T,T,T,T,T,T,T,T,T,T,T,T,T,T,T,T,T,T,F]
abbrev spec_l03Is.m49_ : Array Bool := #[T,T,T,T,T,T,T,T,T,T,T,T,T,T,T,T,T,T,T,T,T,T,T,T,T,T,T,T,T,T,T,T,T,T]
abbrev spec_l03Is.m50_ : Array Bool := #[T,T,T,T,T,T,T,T,T,T,T,T,T,T,T,T,T,T,T,T,T,F,T,F,F,F,F,F,F,F,F,F,F,F]
abbrev spec_l03Is.m51_ : Array Bool := #[T,T,T,T,T,T,T,T,T,T,T,T,T,T,T,T,T,T,T,T,T,F,T,T,F,F,F,F,F,F,F,F,F,F]
abbrev spec_l03Is.m52_ : Array Bool := #[T,T,T,T,T,T,T,T,T,T,T,T,T,T,T,T,T,T,T,T,T,F,T,T,F,F,F,T,F,F,F,F,F,F]
abbrev spec_l03Is.m53_ : Array Bool := #[T,T,T,T,T,T,T,T,T,T,T,T,T,T,T,T,T,T,T,T,T,F,T,T,F,F,F,T,T,F,F,F,F,F]
abbrev spec_l03Is.m54_ : Array Bool := #[T,T,T,T,T,T,T,T,T,T,T,T,T,T,T,T,T,T,T,T,T,F,T,T,F,F,F,T,T,T,F,F,F,F]
abbrev spec_l03Is.m55_ : Array Bool := #[T,T,T,T,T,T,T,T,T,T,T,T,T,T,T,T,T,T,T,T,T,T,T,T,F,F,F,T,T,T,F,F,F,F]
abbrev spec_l03Is.m56_ : Array Bool := #[T,T,T,T,T,T,T,T,T,T,T,T,T,T,T,T,T,T,T,T,T,T,T,T,T,F,F,T,T,T,F,F,F,F]
abbrev spec_l03Is.m57_ : Array Bool := #[T,T,T,T,T,T,T,T,T,T,T,T,T,T,T,T,T,T,T,T,T,T,T,T,T,T,F,T,T,T,F,F,F,F]
theorem spec_l03Is.p1_ {P : Prop} (h : P := by simp only [Act.put, List.setIfInBounds_toArray, List.set_cons_zero, List.set_cons_succ, i64_w, i32_w]; rfl) : P := h
theorem spec_l03Is.b1_ {P Q : Prop} (q : Q) (h : Q → P := by intro q_; (with_reducible repeat (first | refine blk_drewN ?_ _ | refine blk_drew ?_ | refine blk_alloc ?_ _)); exact q_) : P := h q
theorem spec_l03Is.pu_ {P : Program} {md : Region.Mode} {ops : Array Oper} {Q : Exit → Act → World → Prop} {S : World → Prop} {ds : List Nat} {fuel : Nat} {l : Array Bool} {a : Act} {w : World} {oi : Oper} {a' : Act} {v : Value} (i N : Nat) (l' : Array Bool) (hc : anyB md ops l l' i = true) (h : wpAnyLast P md ops Q S ds fuel l' a' w) (hi : ops[i]? = some oi := by rfl) (hN : oi.dst = some N := by rfl) (hQ : ∀ c a w, Q (.panic c) (a.put oi.dst v) w → Q (.panic c) a w := by exact fun _ _ _ h => h) (hy : Yields P ops oi v a := by exact Or.inl ⟨by rfl, by intro w'; go_simp; with_reducible rfl⟩) (ha : a.put (some N) v = a' := by simp only [Act.put, List.setIfInBounds_toArray, List.set_cons_zero, List.set_cons_succ, i64_w, i32_w]; rfl) : wpAnyLast P md ops Q S ds (fuel + 1) l a w := pure_ l' hi hN hc hQ hy ha h
theorem spec_l03Is.pn_ {P : Program} {md : Region.Mode} {ops : Array Oper} {Q : Exit → Act → World → Prop} {S : World → Prop} {ds : List Nat} {fuel : Nat} {l : Array Bool} {a : Act} {w : World} {oi : Oper} {a' : Act} (i N : Nat) (l' : Array Bool) (hc : anyB md ops l l' i = true) (h : wpAnyLast P md ops Q S ds fuel l' a' w) (hi : ops[i]? = some oi := by rfl) (hN : oi.dst = some N := by rfl) (hQ : ∀ c a w, Q (.panic c) (a.put oi.dst undef) w → Q (.panic c) a w := by exact fun _ _ _ h => h) (hy : Yields P ops oi undef a := by exact Or.inr ⟨by rfl, rfl⟩) (ha : a.put (some N) undef = a' := by simp only [Act.put, List.setIfInBounds_toArray, List.set_cons_zero, List.set_cons_succ, i64_w, i32_w]; rfl) : wpAnyLast P md ops Q S ds (fuel + 1) l a w := pure_ l' hi hN hc hQ hy ha h
def spec_l03Is.l0 : Nat → Int → Int → Int → List (S81) → Option (Bool)
  | 0, _, _, _, _ => none
  | k + 1, x23, x24, x1000, x1001 => if x24 < x23 then (if 0 ≤ x24 then (if x24 < (x1001.length : Int) then ((spec_l03Message_v0.f k x1001 x24).bind fun t127 => (if t127 = true then (if ((rd_T81 x1001 x24).f0) ≥ x1000 then (some false) else (if x24 > 0 then (if 0 ≤ (wrap64 (x24 - 1)) then (if (wrap64 (x24 - 1)) < (x1001.length : Int) then (if ((rd_T81 x1001 (wrap64 (x24 - 1))).f0) ≥ ((rd_T81 x1001 x24).f0) then (some false) else (if ((rd_T81 x1001 (wrap64 (x24 - 1))).f2) > ((rd_T81 x1001 x24).f2) then (some false) else (spec_l03Is.l0 k x23 (wrap64 (x24 + 1)) x1000 x1001))) else (none)) else (none)) else (spec_l03Is.l0 k x23 (wrap64 (x24 + 1)) x1000 x1001))) else (some false))) else (none)) else (none)) else (some true)
def spec_l03Is.f (k : Nat) (a0_0 : Int) (l0_1 : List (S81)) : Option (Bool) := if (l0_1.length : Int) > 40 then (some false) else ((spec_l00In.f a0_0 1 1000000000).bind fun t125 => (if t125 = true then (spec_l03Is.l0 k (l0_1.length : Int) 0 a0_0 l0_1) else (some false)))
theorem spec_l03Is.mono_l : ∀ k, (∀ y0 y1 y2 y3, LeO (spec_l03Is.l0 k y0 y1 y2 y3) (spec_l03Is.l0 (k + 1) y0 y1 y2 y3))
  | 0 => fun _ _ _ _ r h => by simp [spec_l03Is.l0] at h
  | k + 1 => by
    have ih0 := spec_l03Is.mono_l k
    · intro y0 y1 y2 y3
      unfold spec_l03Is.l0
      repeat' first
      | (with_reducible exact ih0 _ _ _ _)
      | (with_reducible exact spec_l03Message_v0.mono _ _ _)
      | (with_reducible exact LeO.refl _)
      | (with_reducible exact LeO.none _)
      | (with_reducible refine LeO.ite ?_ ?_)
      | (with_reducible refine LeO.bind ?_ (fun _ => ?_))
      | exact ih0 _ _ _ _
      | exact spec_l03Message_v0.mono _ _ _
      | exact LeO.none _
      | refine LeO.ite ?_ ?_
      | refine LeO.bind ?_ (fun _ => ?_)
theorem spec_l03Is.mono : ∀ a0 a1 k, LeO (spec_l03Is.f k a0 a1) (spec_l03Is.f (k + 1) a0 a1) := by
  intro a0 a1 k
  have ih0 := spec_l03Is.mono_l k
  unfold spec_l03Is.f
  repeat' first
      | (with_reducible exact ih0 _ _ _ _)
      | (with_reducible exact spec_l03Message_v0.mono _ _ _)
      | (with_reducible exact LeO.refl _)
      | (with_reducible exact LeO.none _)
      | (with_reducible refine LeO.ite ?_ ?_)
      | (with_reducible refine LeO.bind ?_ (fun _ => ?_))
      | exact ih0 _ _ _ _
      | exact spec_l03Message_v0.mono _ _ _
      | exact LeO.none _
      | refine LeO.ite ?_ ?_
      | refine LeO.bind ?_ (fun _ => ?_)
def spec_l03Is.T7 : Bool × List (List Nat × List Nat) := (true, [([], []), ([0], [0]), ([1], [1]), ([2, 1], [2]), ([3], [3]), ([4, 3], [3, 4]), ([5, 3], [3, 5]), ([6, 3], [3, 6]), ([3], [3]), ([8, 3], [3, 8]), ([9, 3], [3, 9]), ([10, 3], [3, 10]), ([7, 11, 3], [3, 7, 11]), ([3, 12], [3, 12])])
def spec_l03Is.B7 : List Nat := [0, 1, 3, 7, 15, 31, 63, 127, 15, 271, 783, 1807, 4095, 8191]
theorem spec_l03Is.tab7 : rtab .any (opsOf Try.f36 7) = spec_l03Is.T7 := by kernel_rfl
theorem spec_l03Is.bits7 : waitsOk spec_l03Is.T7.2 spec_l03Is.B7 = true := by kernel_rfl
def spec_l03Is.T9 : Bool × List (List Nat × List Nat) := (true, [([], []), ([0], [0]), ([1], [1]), ([2], [2]), ([3, 2], [2, 3]), ([4, 2], [2, 4]), ([5, 2], [2, 5]), ([2], [2]), ([7, 2], [2, 7]), ([6, 8, 2], [2, 6, 8]), ([9, 2], [2, 9]), ([10, 2], [2, 10]), ([2], [2]), ([12, 2], [2, 12]), ([13, 2], [2, 13]), ([14, 2], [2, 14]), ([11, 15, 2], [2, 11, 15]), ([16, 2, 2], [2, 16]), ([17], [17]), ([18, 17], [17, 18]), ([19, 17], [17, 19]), ([20, 17], [17, 20]), ([17], [17]), ([22, 17], [17, 22]), ([21, 23, 17], [17, 21, 23]), ([24, 17], [17, 24]), ([25, 17], [17, 25]), ([17], [17]), ([27, 17], [17, 27]), ([28, 17], [17, 28]), ([29, 17], [17, 29]), ([26, 30, 17], [17, 26, 30]), ([17, 31, 2], [2, 17, 31]), ([2, 32], [2, 32])])
def spec_l03Is.B9 : List Nat := [0, 1, 3, 7, 15, 31, 63, 7, 135, 511, 1023, 2047, 7, 4103, 12295, 28679, 65535, 131071, 262143, 524287, 1048575, 2097151, 262143, 4456447, 16777215, 33554431, 67108863, 262143, 134479871, 402915327, 939786239, 2147483647, 4294967295, 8589934591]
theorem spec_l03Is.tab9 : rtab .any (opsOf Try.f36 9) = spec_l03Is.T9 := by kernel_rfl
theorem spec_l03Is.bits9 : waitsOk spec_l03Is.T9.2 spec_l03Is.B9 = true := by kernel_rfl
set_option maxHeartbeats 8000000 in
set_option maxRecDepth 100000 in
theorem spec_l03Is.calls (k : Nat) (g0_ : Nat) (a0_0 : Int) (A0_1 : Option Addr) (c0_1 : Nat) (l0_1 : List (S81)) (r : Bool) (w : World) (hbk0 : w.heap[g0_]? = some (.cells #[.int .i64 a0_0, .slice A0_1 l0_1.length c0_1] 38 (0, 0))) (hr0_1 : Kd.C k81 w A0_1 l0_1.length l0_1) (hc0_1 : l0_1.length ≤ c0_1) (h : spec_l03Is.f k a0_0 l0_1 = some r) :
    Calls Try.prog 36 #[.pointer (some ⟨g0_, 0, none⟩)] w fun e w' => e = .returned (.bool r) ∧ Below w.heap.size w w' := by
 have HR0_1 := Aside0.mk hr0_1
 have HC0_1 := Aside0.mk hc0_1
 clear hr0_1 hc0_1
 have BK0 := Aside0.mk hbk0
 clear hbk0
 have HB := Aside0.mk (Below.refl w.heap.size w)
 have H : (if (l0_1.length : Int) > 40 then (some false) else ((spec_l00In.f a0_0 1 1000000000).bind fun t125 => (if t125 = true then (spec_l03Is.l0 k (l0_1.length : Int) 0 a0_0 l0_1) else (some false)))) = some r := h
 clear h
 by_cases c2 : (l0_1.length : Int) > 40
 {
 rw [if_pos c2] at H
 have c2b0 : decide (40 < (l0_1.length : Int)) = true := decide_eq_true c2
 have c2b1 : decide (40 < l0_1.length) = true := decide_eq_true (by omega)
 clear c2
 obtain rfl := Option.some.inj H
 have hcz3_0 : w.cell? ⟨g0_, 0, none⟩ = some (.int .i64 a0_0) := (blk_cell BK0.out 0).trans rfl
 have hcz3_1 : w.cell? ⟨g0_, 1, none⟩ = some (.slice A0_1 l0_1.length c0_1) := (blk_cell BK0.out 1).trans rfl
 have hfz3_0 := blk_frozen BK0.out 0
 have hfz3_1 := blk_frozen BK0.out 1
 go_enter Try.func36, Try.ntmps36
 go_wp2
 go_ret
 exact ⟨by first | rfl | (simp [errW_none, errW_some] <;> rfl) | (simp [*, errW_none, errW_some] <;> rfl), by repeat (first | (with_reducible first | exact HB.out | apply below_alloc | apply pw_below_drewN | apply below_drew1 | refine below_set ?_ GE0.out) | exact HB.out)⟩}
 {
 rw [if_neg c2] at H
 have c2b0 : decide (40 < (l0_1.length : Int)) = false := decide_eq_false c2
 have c2b1 : decide (40 < l0_1.length) = false := decide_eq_false (by omega)
 clear c2
 replace H := Option.bind_eq_some_iff.mp H
 obtain ⟨t125, A40, H⟩ := H
 replace H : (if t125 = true then (spec_l03Is.l0 k (l0_1.length : Int) 0 a0_0 l0_1) else (some false)) = some r := H
 have A4 := Aside0.mk A40
 clear A40
 by_cases c5 : t125 = true
 {
 subst c5
 have H1 : (spec_l03Is.l0 k (l0_1.length : Int) 0 a0_0 l0_1) = some r := by rw [if_pos rfl] at H; exact H
 clear H
 have H := H1
 clear H1
 have H' := Aside0.mk H
 clear H
 have hcz6_0 : w.cell? ⟨g0_, 0, none⟩ = some (.int .i64 a0_0) := (blk_cell BK0.out 0).trans rfl
 have hcz6_1 : w.cell? ⟨g0_, 1, none⟩ = some (.slice A0_1 l0_1.length c0_1) := (blk_cell BK0.out 1).trans rfl
 have hfz6_0 := blk_frozen BK0.out 0
 have hfz6_1 := blk_frozen BK0.out 1
 go_enter Try.func36, Try.ntmps36
 go_wp2_with (first | (go_at_call 52; (with_reducible refine (spec_l00In.calls a0_0 1 1000000000 true _ A4.out).mono ?_); rintro e w' ⟨rfl, ⟨nd, rfl⟩⟩))
 go_loopg [24] k (fun kq v24 w' => ∃ (x24_1 : Int), v24 = .int .i64 x24_1 ∧ Aside0 (spec_l03Is.l0 kq (l0_1.length : Int) x24_1 a0_0 l0_1 = some r) ∧ Aside0 (kq ≤ k) ∧ Aside0 (w'.heap[g0_]? = some (.cells #[.int .i64 a0_0, (.slice A0_1 l0_1.length c0_1)] 38 (0, 0))) ∧ Aside0 (Below w.heap.size w w'))
 case atStart => exact ⟨(0), s1_, H', ⟨Nat.le_refl _⟩, ⟨b1_ BK0.out⟩, ⟨by repeat (first | (with_reducible first | exact HB.out | apply below_alloc | apply pw_below_drewN | apply below_drew1 | refine below_set ?_ GE0.out) | exact HB.out)⟩⟩
 case round =>
  skip
  {
 clear H'
 try clear c2
 try clear c2b0
 try clear c2b1
 try clear p2
 try clear c3
 try clear c5
 try clear hcz3_0
 try clear hcz3_1
 try clear hcz6_0
 try clear hcz6_1
 try clear hfz3_0
 try clear hfz3_1
 try clear hfz6_0
 try clear hfz6_1
 obtain ⟨x24_1, rfl, HA, HK1, BK0, HB⟩ := hrel
 cases gk with
 | zero => exact absurd HA.out (by simp [spec_l03Is.l0])
 | succ k1 =>
  skip
  {
 have H := HA.out
 clear HA
 simp only [spec_l03Is.l0] at H
 by_cases c7 : x24_1 < (l0_1.length : Int)
 {
 rw [if_pos c7] at H
 have c7b0 : decide (x24_1 < (l0_1.length : Int)) = true := decide_eq_true c7
 clear c7
 by_cases c8 : 0 ≤ x24_1
 {
 rw [if_pos c8] at H
 have c8b0 : decide (0 ≤ x24_1) = true := decide_eq_true c8
 clear c8
 by_cases c9 : x24_1 < (l0_1.length : Int)
 {
 rw [if_pos c9] at H
 have c9b0 : decide (x24_1 < (l0_1.length : Int)) = true := decide_eq_true c9
 clear c9
 replace H := Option.bind_eq_some_iff.mp H
 obtain ⟨t127, A100, H⟩ := H
 replace H : (if t127 = true then (if ((rd_T81 l0_1 x24_1).f0) ≥ a0_0 then (some false) else (if x24_1 > 0 then (if 0 ≤ (wrap64 (x24_1 - 1)) then (if (wrap64 (x24_1 - 1)) < (l0_1.length : Int) then (if ((rd_T81 l0_1 (wrap64 (x24_1 - 1))).f0) ≥ ((rd_T81 l0_1 x24_1).f0) then (some false) else (if ((rd_T81 l0_1 (wrap64 (x24_1 - 1))).f2) > ((rd_T81 l0_1 x24_1).f2) then (some false) else (spec_l03Is.l0 k1 (l0_1.length : Int) (wrap64 (x24_1 + 1)) a0_0 l0_1))) else (none)) else (none)) else (spec_l03Is.l0 k1 (l0_1.length : Int) (wrap64 (x24_1 + 1)) a0_0 l0_1))) else (some false)) = some r := H
 have A10 := Aside0.mk A100
 clear A100
 by_cases c11 : t127 = true
 {
 subst c11
 have H1 : (if ((rd_T81 l0_1 x24_1).f0) ≥ a0_0 then (some false) else (if x24_1 > 0 then (if 0 ≤ (wrap64 (x24_1 - 1)) then (if (wrap64 (x24_1 - 1)) < (l0_1.length : Int) then (if ((rd_T81 l0_1 (wrap64 (x24_1 - 1))).f0) ≥ ((rd_T81 l0_1 x24_1).f0) then (some false) else (if ((rd_T81 l0_1 (wrap64 (x24_1 - 1))).f2) > ((rd_T81 l0_1 x24_1).f2) then (some false) else (spec_l03Is.l0 k1 (l0_1.length : Int) (wrap64 (x24_1 + 1)) a0_0 l0_1))) else (none)) else (none)) else (spec_l03Is.l0 k1 (l0_1.length : Int) (wrap64 (x24_1 + 1)) a0_0 l0_1))) = some r := by rw [if_pos rfl] at H; exact H
 clear H
 have H := H1
 clear H1
 by_cases c12 : ((rd_T81 l0_1 x24_1).f0) ≥ a0_0
 {
 rw [if_pos c12] at H
 have c12b0 : decide (a0_0 ≤ ((rd_T81 l0_1 x24_1).f0)) = true := decide_eq_true c12
 clear c12
 obtain rfl := Option.some.inj H
 have hcz13_0 : wr.cell? ⟨g0_, 0, none⟩ = some (.int .i64 a0_0) := (blk_cell BK0.out 0).trans rfl
 have hcz13_1 : wr.cell? ⟨g0_, 1, none⟩ = some (.slice A0_1 l0_1.length c0_1) := (blk_cell BK0.out 1).trans rfl
 have hfz13_0 := blk_frozen BK0.out 0
 have hfz13_1 := blk_frozen BK0.out 1
 have p126 : 0 ≤ (x24_1 : Int) := of_decide_eq_true (by first | (with_reducible assumption) | assumption)
 have q126 : x24_1 < (l0_1.length : Int) := of_decide_eq_true (by first | (with_reducible assumption) | assumption)
 obtain ⟨ad126, A126_7, c126_7, e126, hx126_0, hx126_1, hx126_2, hx126_3, hx126_4, hx126_5, hx126_6, hx126_7, hl126_7, hi126_7⟩ := at_T81 HR0_1.out x24_1 p126 q126
 cases e126
 replace hx126_0 := (HB.out.cell (World.block_lt_of_cell? w _ hx126_0)).trans hx126_0
 replace hx126_1 := (HB.out.cell (World.block_lt_of_cell? w _ hx126_1)).trans hx126_1
 replace hx126_2 := (HB.out.cell (World.block_lt_of_cell? w _ hx126_2)).trans hx126_2
 replace hx126_3 := (HB.out.cell (World.block_lt_of_cell? w _ hx126_3)).trans hx126_3
 replace hx126_4 := (HB.out.cell (World.block_lt_of_cell? w _ hx126_4)).trans hx126_4
 replace hx126_5 := (HB.out.cell (World.block_lt_of_cell? w _ hx126_5)).trans hx126_5
 replace hx126_6 := (HB.out.cell (World.block_lt_of_cell? w _ hx126_6)).trans hx126_6
 replace hx126_7 := (HB.out.cell (World.block_lt_of_cell? w _ hx126_7)).trans hx126_7
 have HR126_7 := Aside0.mk hi126_7
 have HC126_7 := Aside0.mk hl126_7
 clear hi126_7 hl126_7
 replace p126 := eq_true p126
 replace q126 := eq_true q126
 try go_wp2
 have n0_ := Aside0.mk (blk_drew BK0.out)
 have n1_ := Aside0.mk (below_drew1 HB.out)
 clear BK0
 clear HB
 have BK0 := n0_
 have HB := n1_
 clear n0_ n1_
 have p128 : 0 ≤ (x24_1 : Int) := of_decide_eq_true (by first | (with_reducible assumption) | assumption)
 have q128 : x24_1 < (l0_1.length : Int) := of_decide_eq_true (by first | (with_reducible assumption) | assumption)
 obtain ⟨ad128, A128_7, c128_7, e128, hx128_0, hx128_1, hx128_2, hx128_3, hx128_4, hx128_5, hx128_6, hx128_7, hl128_7, hi128_7⟩ := at_T81 HR0_1.out x24_1 p128 q128
 have hw128_7 := hx128_7
 have hw128_6 := hx128_6
 have hw128_5 := hx128_5
 have hw128_4 := hx128_4
 have hw128_3 := hx128_3
 have hw128_2 := hx128_2
 have hw128_1 := hx128_1
 have hw128_0 := hx128_0
 obtain rfl : ad126 = ad128 := (by injection e128)
 replace hx128_0 := (HB.out.cell (World.block_lt_of_cell? w _ hx128_0)).trans hx128_0
 replace hx128_1 := (HB.out.cell (World.block_lt_of_cell? w _ hx128_1)).trans hx128_1
 replace hx128_2 := (HB.out.cell (World.block_lt_of_cell? w _ hx128_2)).trans hx128_2
 replace hx128_3 := (HB.out.cell (World.block_lt_of_cell? w _ hx128_3)).trans hx128_3
 replace hx128_4 := (HB.out.cell (World.block_lt_of_cell? w _ hx128_4)).trans hx128_4
 replace hx128_5 := (HB.out.cell (World.block_lt_of_cell? w _ hx128_5)).trans hx128_5
 replace hx128_6 := (HB.out.cell (World.block_lt_of_cell? w _ hx128_6)).trans hx128_6
 replace hx128_7 := (HB.out.cell (World.block_lt_of_cell? w _ hx128_7)).trans hx128_7
 have HR128_7 := Aside0.mk hi128_7
 have HC128_7 := Aside0.mk hl128_7
 clear hi128_7 hl128_7
 replace p128 := eq_true p128
 replace q128 := eq_true q128
 refine start_ (n := 14) (S := fun w' => w'.cell? ⟨g0_, 0, none⟩ = some (.int .i64 a0_0) ∧ w'.cell? ⟨g0_, 1, none⟩ = some (.slice (some ad126) l0_1.length c0_1) ∧ w'.cell? (ad126.add ((x24_1).toNat * 8)) = some (.int .i64 ((rd_T81 l0_1 x24_1).f0)) ∧ w'.cell? ⟨(ad126.add ((x24_1).toNat * 8)).block, (ad126.add ((x24_1).toNat * 8)).off + 1, none⟩ = some (.int .i64 ((rd_T81 l0_1 x24_1).f1)) ∧ w'.cell? ⟨(ad126.add ((x24_1).toNat * 8)).block, (ad126.add ((x24_1).toNat * 8)).off + 2, none⟩ = some (.int .i64 ((rd_T81 l0_1 x24_1).f2)) ∧ w'.cell? ⟨(ad126.add ((x24_1).toNat * 8)).block, (ad126.add ((x24_1).toNat * 8)).off + 3, none⟩ = some (.string ((rd_T81 l0_1 x24_1).f3)) ∧ w'.cell? ⟨(ad126.add ((x24_1).toNat * 8)).block, (ad126.add ((x24_1).toNat * 8)).off + 4, none⟩ = some (.int .i64 ((rd_T81 l0_1 x24_1).f4)) ∧ w'.cell? ⟨(ad126.add ((x24_1).toNat * 8)).block, (ad126.add ((x24_1).toNat * 8)).off + 5, none⟩ = some (.bool ((rd_T81 l0_1 x24_1).f5)) ∧ w'.cell? ⟨(ad126.add ((x24_1).toNat * 8)).block, (ad126.add ((x24_1).toNat * 8)).off + 6, none⟩ = some (.int .i64 ((rd_T81 l0_1 x24_1).f6)) ∧ w'.cell? ⟨(ad126.add ((x24_1).toNat * 8)).block, (ad126.add ((x24_1).toNat * 8)).off + 7, none⟩ = some (.slice A128_7 ((rd_T81 l0_1 x24_1).f7).length c128_7)) (ds := []) m0_ s2_ rfl rfl ⟨(blk_cell BK0.out 0).trans rfl, (blk_cell BK0.out 1).trans rfl, ((HB.out.cell (World.block_lt_of_cell? w _ hw128_0)).trans hw128_0), ((HB.out.cell (World.block_lt_of_cell? w _ hw128_1)).trans hw128_1), ((HB.out.cell (World.block_lt_of_cell? w _ hw128_2)).trans hw128_2), ((HB.out.cell (World.block_lt_of_cell? w _ hw128_3)).trans hw128_3), ((HB.out.cell (World.block_lt_of_cell? w _ hw128_4)).trans hw128_4), ((HB.out.cell (World.block_lt_of_cell? w _ hw128_5)).trans hw128_5), ((HB.out.cell (World.block_lt_of_cell? w _ hw128_6)).trans hw128_6), ((HB.out.cell (World.block_lt_of_cell? w _ hw128_7)).trans hw128_7)⟩ (fun hHeld => ?_); refine with_tabW spec_l03Is.tab7 spec_l03Is.bits7 (fun HT_ HW_ => ?_)
 generalize wr.drew = w14 at BK0 HB HR128_7 hx128_0 hx128_1 hx128_2 hx128_3 hx128_4 hx128_5 hx128_6 hx128_7 hHeld ⊢
 refine pu_ 0 33 m1_ (any_of HT_.out s2_) ?_
 refine one_ (i := 1) (N := some 34) m2_ rfl rfl (one_of HT_.out s2_) (by decide) (fun K hK => ?_)
 refine goes_ Try.func57 s2_ rfl #[.pointer (some (ad126.add ((x24_1).toNat * 8)))] (by rfl) rfl rfl s3_ ?_
 with_reducible refine (spec_l03Message_v0.calls k1 ad126 c0_1 l0_1 x24_1 true _ ?side1 ?side2 A10.out).mono ?_
 (case side1 => repeat (first | exact (Kd.C_below HR0_1.out HB.out) | (with_reducible refine Kd.C_alloc ?_ _) | (with_reducible refine Kd.C_drewN ?_ _) | (with_reducible refine Kd.C_drew ?_)))
 (case side2 => exact HC0_1.out)
 rintro e w15 ⟨rfl, hb⟩
 refine ⟨_, rfl, ?_⟩
 have n0_ := Aside0.mk (blk_below (g := g0_) (o := .cells #[.int .i64 a0_0, .slice (some ad126) l0_1.length c0_1] 38 (0, 0)) (b1_ BK0.out) hb)
 have n1_ := Aside0.mk (below_step (by repeat (first | (with_reducible first | exact HB.out | apply below_alloc | apply pw_below_drewN | apply below_drew1 | refine below_set ?_ GE0.out) | exact HB.out)) hb)
 clear BK0
 clear HB
 have BK0 := n0_
 have HB := n1_
 clear n0_ n1_
 (try clear hb)
 (try clear hb2)
 (try clear hk)
 (try clear hi)
 refine hK.out _ _ ⟨(blk_cell BK0.out 0).trans rfl, (blk_cell BK0.out 1).trans rfl, ((HB.out.cell (World.block_lt_of_cell? w _ hw128_0)).trans hw128_0), ((HB.out.cell (World.block_lt_of_cell? w _ hw128_1)).trans hw128_1), ((HB.out.cell (World.block_lt_of_cell? w _ hw128_2)).trans hw128_2), ((HB.out.cell (World.block_lt_of_cell? w _ hw128_3)).trans hw128_3), ((HB.out.cell (World.block_lt_of_cell? w _ hw128_4)).trans hw128_4), ((HB.out.cell (World.block_lt_of_cell? w _ hw128_5)).trans hw128_5), ((HB.out.cell (World.block_lt_of_cell? w _ hw128_6)).trans hw128_6), ((HB.out.cell (World.block_lt_of_cell? w _ hw128_7)).trans hw128_7)⟩ (fun hHeld => ?_)
 clear hK K
 refine norm_ (a' := ?_) ?_ ?_
 rotate_left
 {
 show Act.put _ (some 34) _ = _
 simp only [Act.put, List.setIfInBounds_toArray, List.set_cons_zero, List.set_cons_succ, i64_w, i32_w]
 rfl}
 refine pu_ 2 35 m3_ (any_of HT_.out s2_) ?_
 refine pu_ 3 36 m4_ (any_of HT_.out s2_) ?_
 refine pu_ 4 37 m5_ (any_of HT_.out s2_) ?_
 refine pu_ 5 38 m6_ (any_of HT_.out s2_) ?_
 refine pu_ 6 39 m7_ (any_of HT_.out s2_) ?_
 refine pu_ 8 41 m8_ (any_of HT_.out s2_) ?_
 refine pu_ 9 42 m9_ (any_of HT_.out s2_) ?_
 refine pu_ 10 43 m10_ (any_of HT_.out s2_) ?_
 refine take_ (i := 7) (N := some 40) (v := ?_) (a' := ?_) m11_ rfl rfl (take_ofW HT_.out HW_.out s2_) (fun _ _ _ h => h) (Or.inl ⟨by rfl, ?_⟩) hHeld ?_ ?_
 rotate_left
 {
 rintro w' ⟨s0, s1, s2, s3, s4, s5, s6, s7, s8, s9⟩
 go_simp
 with_reducible rfl}
 rotate_left
 · exact p1_
 refine take_ (i := 11) (N := some 44) (v := ?_) (a' := ?_) m12_ rfl rfl (take_ofW HT_.out HW_.out s2_) (fun _ _ _ h => h) (Or.inl ⟨by rfl, ?_⟩) hHeld ?_ ?_
 rotate_left
 {
 rintro w' ⟨s0, s1, s2, s3, s4, s5, s6, s7, s8, s9⟩
 go_simp
 with_reducible rfl}
 rotate_left
 · exact p1_
 refine pu_ 12 45 m13_ (any_of HT_.out s2_) ?_
 refine pu_ 13 46 m14_ (any_of HT_.out s2_) ?_
 refine done_ (done_of HT_.out s2_) ?_
 try go_wp2
 go_ret
 exact ⟨by first | rfl | (simp [errW_none, errW_some] <;> rfl) | (simp [*, errW_none, errW_some] <;> rfl), by repeat (first | (with_reducible first | exact HB.out | apply below_alloc | apply pw_below_drewN | apply below_drew1 | refine below_set ?_ GE0.out) | exact HB.out)⟩}
 {
 rw [if_neg c12] at H
 have c12b0 : decide (a0_0 ≤ ((rd_T81 l0_1 x24_1).f0)) = false := decide_eq_false c12
 clear c12
 by_cases c16 : x24_1 > 0
 {
 rw [if_pos c16] at H
 have c16b0 : decide (0 < x24_1) = true := decide_eq_true c16
 clear c16
 obtain ⟨ji17, hji17⟩ : ∃ j_ : Int, (wrap64 (x24_1 - 1)) = j_ := ⟨_, rfl⟩
 replace H : (if 0 ≤ (ji17) then (if (ji17) < (l0_1.length : Int) then (if ((rd_T81 l0_1 (ji17)).f0) ≥ ((rd_T81 l0_1 x24_1).f0) then (some false) else (if ((rd_T81 l0_1 (ji17)).f2) > ((rd_T81 l0_1 x24_1).f2) then (some false) else (spec_l03Is.l0 k1 (l0_1.length : Int) (wrap64 (x24_1 + 1)) a0_0 l0_1))) else (none)) else (none)) = some r := by first | (rw [hji17] at H; exact H) | (simp only [hji17] at H ⊢; exact H)
 (try rw [hji17] at A10)
 have hji17w : (IntKind.i64.wrap (x24_1 - 1)) = ji17 := (i64_w _).trans hji17
 by_cases c18 : 0 ≤ (ji17)
 {
 rw [if_pos c18] at H
 have c18b0 : decide (0 ≤ (ji17)) = true := decide_eq_true c18
 clear c18
 by_cases c19 : (ji17) < (l0_1.length : Int)
 {
 rw [if_pos c19] at H
 have c19b0 : decide ((ji17) < (l0_1.length : Int)) = true := decide_eq_true c19
 clear c19
 by_cases c20 : ((rd_T81 l0_1 (ji17)).f0) ≥ ((rd_T81 l0_1 x24_1).f0)
 {
 rw [if_pos c20] at H
 have c20b0 : decide (((rd_T81 l0_1 x24_1).f0) ≤ ((rd_T81 l0_1 (ji17)).f0)) = true := decide_eq_true c20
 clear c20
 obtain rfl := Option.some.inj H
 have hcz21_0 : wr.cell? ⟨g0_, 0, none⟩ = some (.int .i64 a0_0) := (blk_cell BK0.out 0).trans rfl
 have hcz21_1 : wr.cell? ⟨g0_, 1, none⟩ = some (.slice A0_1 l0_1.length c0_1) := (blk_cell BK0.out 1).trans rfl
 have hfz21_0 := blk_frozen BK0.out 0
 have hfz21_1 := blk_frozen BK0.out 1
 have p126 : 0 ≤ (x24_1 : Int) := of_decide_eq_true (by first | (with_reducible assumption) | assumption)
 have q126 : x24_1 < (l0_1.length : Int) := of_decide_eq_true (by first | (with_reducible assumption) | assumption)
 obtain ⟨ad126, A126_7, c126_7, e126, hx126_0, hx126_1, hx126_2, hx126_3, hx126_4, hx126_5, hx126_6, hx126_7, hl126_7, hi126_7⟩ := at_T81 HR0_1.out x24_1 p126 q126
 cases e126
 replace hx126_0 := (HB.out.cell (World.block_lt_of_cell? w _ hx126_0)).trans hx126_0
 replace hx126_1 := (HB.out.cell (World.block_lt_of_cell? w _ hx126_1)).trans hx126_1
 replace hx126_2 := (HB.out.cell (World.block_lt_of_cell? w _ hx126_2)).trans hx126_2
 replace hx126_3 := (HB.out.cell (World.block_lt_of_cell? w _ hx126_3)).trans hx126_3
 replace hx126_4 := (HB.out.cell (World.block_lt_of_cell? w _ hx126_4)).trans hx126_4
 replace hx126_5 := (HB.out.cell (World.block_lt_of_cell? w _ hx126_5)).trans hx126_5
 replace hx126_6 := (HB.out.cell (World.block_lt_of_cell? w _ hx126_6)).trans hx126_6
 replace hx126_7 := (HB.out.cell (World.block_lt_of_cell? w _ hx126_7)).trans hx126_7
 have HR126_7 := Aside0.mk hi126_7
 have HC126_7 := Aside0.mk hl126_7
 clear hi126_7 hl126_7
 replace p126 := eq_true p126
 replace q126 := eq_true q126
 try go_wp2
 have n0_ := Aside0.mk (blk_drew BK0.out)
 have n1_ := Aside0.mk (below_drew1 HB.out)
 clear BK0
 clear HB
 have BK0 := n0_
 have HB := n1_
 clear n0_ n1_
 have p128 : 0 ≤ (x24_1 : Int) := of_decide_eq_true (by first | (with_reducible assumption) | assumption)
 have q128 : x24_1 < (l0_1.length : Int) := of_decide_eq_true (by first | (with_reducible assumption) | assumption)
 obtain ⟨ad128, A128_7, c128_7, e128, hx128_0, hx128_1, hx128_2, hx128_3, hx128_4, hx128_5, hx128_6, hx128_7, hl128_7, hi128_7⟩ := at_T81 HR0_1.out x24_1 p128 q128
 have hw128_7 := hx128_7
 have hw128_6 := hx128_6
 have hw128_5 := hx128_5
 have hw128_4 := hx128_4
 have hw128_3 := hx128_3
 have hw128_2 := hx128_2
 have hw128_1 := hx128_1
 have hw128_0 := hx128_0
 obtain rfl : ad126 = ad128 := (by injection e128)
 replace hx128_0 := (HB.out.cell (World.block_lt_of_cell? w _ hx128_0)).trans hx128_0
 replace hx128_1 := (HB.out.cell (World.block_lt_of_cell? w _ hx128_1)).trans hx128_1
 replace hx128_2 := (HB.out.cell (World.block_lt_of_cell? w _ hx128_2)).trans hx128_2
 replace hx128_3 := (HB.out.cell (World.block_lt_of_cell? w _ hx128_3)).trans hx128_3
 replace hx128_4 := (HB.out.cell (World.block_lt_of_cell? w _ hx128_4)).trans hx128_4
 replace hx128_5 := (HB.out.cell (World.block_lt_of_cell? w _ hx128_5)).trans hx128_5
 replace hx128_6 := (HB.out.cell (World.block_lt_of_cell? w _ hx128_6)).trans hx128_6
 replace hx128_7 := (HB.out.cell (World.block_lt_of_cell? w _ hx128_7)).trans hx128_7
 have HR128_7 := Aside0.mk hi128_7
 have HC128_7 := Aside0.mk hl128_7
 clear hi128_7 hl128_7
 replace p128 := eq_true p128
 replace q128 := eq_true q128
 refine start_ (n := 14) (S := fun w' => w'.cell? ⟨g0_, 0, none⟩ = some (.int .i64 a0_0) ∧ w'.cell? ⟨g0_, 1, none⟩ = some (.slice (some ad126) l0_1.length c0_1) ∧ w'.cell? (ad126.add ((x24_1).toNat * 8)) = some (.int .i64 ((rd_T81 l0_1 x24_1).f0)) ∧ w'.cell? ⟨(ad126.add ((x24_1).toNat * 8)).block, (ad126.add ((x24_1).toNat * 8)).off + 1, none⟩ = some (.int .i64 ((rd_T81 l0_1 x24_1).f1)) ∧ w'.cell? ⟨(ad126.add ((x24_1).toNat * 8)).block, (ad126.add ((x24_1).toNat * 8)).off + 2, none⟩ = some (.int .i64 ((rd_T81 l0_1 x24_1).f2)) ∧ w'.cell? ⟨(ad126.add ((x24_1).toNat * 8)).block, (ad126.add ((x24_1).toNat * 8)).off + 3, none⟩ = some (.string ((rd_T81 l0_1 x24_1).f3)) ∧ w'.cell? ⟨(ad126.add ((x24_1).toNat * 8)).block, (ad126.add ((x24_1).toNat * 8)).off + 4, none⟩ = some (.int .i64 ((rd_T81 l0_1 x24_1).f4)) ∧ w'.cell? ⟨(ad126.add ((x24_1).toNat * 8)).block, (ad126.add ((x24_1).toNat * 8)).off + 5, none⟩ = some (.bool ((rd_T81 l0_1 x24_1).f5)) ∧ w'.cell? ⟨(ad126.add ((x24_1).toNat * 8)).block, (ad126.add ((x24_1).toNat * 8)).off + 6, none⟩ = some (.int .i64 ((rd_T81 l0_1 x24_1).f6)) ∧ w'.cell? ⟨(ad126.add ((x24_1).toNat * 8)).block, (ad126.add ((x24_1).toNat * 8)).off + 7, none⟩ = some (.slice A128_7 ((rd_T81 l0_1 x24_1).f7).length c128_7)) (ds := []) m0_ s2_ rfl rfl ⟨(blk_cell BK0.out 0).trans rfl, (blk_cell BK0.out 1).trans rfl, ((HB.out.cell (World.block_lt_of_cell? w _ hw128_0)).trans hw128_0), ((HB.out.cell (World.block_lt_of_cell? w _ hw128_1)).trans hw128_1), ((HB.out.cell (World.block_lt_of_cell? w _ hw128_2)).trans hw128_2), ((HB.out.cell (World.block_lt_of_cell? w _ hw128_3)).trans hw128_3), ((HB.out.cell (World.block_lt_of_cell? w _ hw128_4)).trans hw128_4), ((HB.out.cell (World.block_lt_of_cell? w _ hw128_5)).trans hw128_5), ((HB.out.cell (World.block_lt_of_cell? w _ hw128_6)).trans hw128_6), ((HB.out.cell (World.block_lt_of_cell? w _ hw128_7)).trans hw128_7)⟩ (fun hHeld => ?_); refine with_tabW spec_l03Is.tab7 spec_l03Is.bits7 (fun HT_ HW_ => ?_)
 generalize wr.drew = w22 at BK0 HB HR128_7 hx128_0 hx128_1 hx128_2 hx128_3 hx128_4 hx128_5 hx128_6 hx128_7 hHeld ⊢
 refine pu_ 0 33 m1_ (any_of HT_.out s2_) ?_
 refine one_ (i := 1) (N := some 34) m2_ rfl rfl (one_of HT_.out s2_) (by decide) (fun K hK => ?_)
 refine goes_ Try.func57 s2_ rfl #[.pointer (some (ad126.add ((x24_1).toNat * 8)))] (by rfl) rfl rfl s3_ ?_
 with_reducible refine (spec_l03Message_v0.calls k1 ad126 c0_1 l0_1 x24_1 true _ ?side1 ?side2 A10.out).mono ?_
 (case side1 => repeat (first | exact (Kd.C_below HR0_1.out HB.out) | (with_reducible refine Kd.C_alloc ?_ _) | (with_reducible refine Kd.C_drewN ?_ _) | (with_reducible refine Kd.C_drew ?_)))
 (case side2 => exact HC0_1.out)
 rintro e w23 ⟨rfl, hb⟩
 refine ⟨_, rfl, ?_⟩
 have n0_ := Aside0.mk (blk_below (g := g0_) (o := .cells #[.int .i64 a0_0, .slice (some ad126) l0_1.length c0_1] 38 (0, 0)) (b1_ BK0.out) hb)
 have n1_ := Aside0.mk (below_step (by repeat (first | (with_reducible first | exact HB.out | apply below_alloc | apply pw_below_drewN | apply below_drew1 | refine below_set ?_ GE0.out) | exact HB.out)) hb)
 clear BK0
 clear HB
 have BK0 := n0_
 have HB := n1_
 clear n0_ n1_
 (try clear hb)
 (try clear hb2)
 (try clear hk)
 (try clear hi)
 refine hK.out _ _ ⟨(blk_cell BK0.out 0).trans rfl, (blk_cell BK0.out 1).trans rfl, ((HB.out.cell (World.block_lt_of_cell? w _ hw128_0)).trans hw128_0), ((HB.out.cell (World.block_lt_of_cell? w _ hw128_1)).trans hw128_1), ((HB.out.cell (World.block_lt_of_cell? w _ hw128_2)).trans hw128_2), ((HB.out.cell (World.block_lt_of_cell? w _ hw128_3)).trans hw128_3), ((HB.out.cell (World.block_lt_of_cell? w _ hw128_4)).trans hw128_4), ((HB.out.cell (World.block_lt_of_cell? w _ hw128_5)).trans hw128_5), ((HB.out.cell (World.block_lt_of_cell? w _ hw128_6)).trans hw128_6), ((HB.out.cell (World.block_lt_of_cell? w _ hw128_7)).trans hw128_7)⟩ (fun hHeld => ?_)
 clear hK K
 refine norm_ (a' := ?_) ?_ ?_
 rotate_left
 {
 show Act.put _ (some 34) _ = _
 simp only [Act.put, List.setIfInBounds_toArray, List.set_cons_zero, List.set_cons_succ, i64_w, i32_w]
 rfl}
 refine pu_ 2 35 m3_ (any_of HT_.out s2_) ?_
 refine pu_ 3 36 m4_ (any_of HT_.out s2_) ?_
 refine pu_ 4 37 m5_ (any_of HT_.out s2_) ?_
 refine pu_ 5 38 m6_ (any_of HT_.out s2_) ?_
 refine pu_ 6 39 m7_ (any_of HT_.out s2_) ?_
 refine pu_ 8 41 m8_ (any_of HT_.out s2_) ?_
 refine pu_ 9 42 m9_ (any_of HT_.out s2_) ?_
 refine pu_ 10 43 m10_ (any_of HT_.out s2_) ?_
 refine take_ (i := 7) (N := some 40) (v := ?_) (a' := ?_) m11_ rfl rfl (take_ofW HT_.out HW_.out s2_) (fun _ _ _ h => h) (Or.inl ⟨by rfl, ?_⟩) hHeld ?_ ?_
 rotate_left
 {
 rintro w' ⟨s0, s1, s2, s3, s4, s5, s6, s7, s8, s9⟩
 go_simp
 with_reducible rfl}
 rotate_left
 · exact p1_
 refine take_ (i := 11) (N := some 44) (v := ?_) (a' := ?_) m12_ rfl rfl (take_ofW HT_.out HW_.out s2_) (fun _ _ _ h => h) (Or.inl ⟨by rfl, ?_⟩) hHeld ?_ ?_
 rotate_left
 {
 rintro w' ⟨s0, s1, s2, s3, s4, s5, s6, s7, s8, s9⟩
 go_simp
 with_reducible rfl}
 rotate_left
 · exact p1_
 refine pu_ 12 45 m13_ (any_of HT_.out s2_) ?_
 refine pu_ 13 46 m14_ (any_of HT_.out s2_) ?_
 refine done_ (done_of HT_.out s2_) ?_
 try go_wp2
 have n0_ := Aside0.mk (blk_drew BK0.out)
 have n1_ := Aside0.mk (below_drew1 HB.out)
 clear BK0
 clear HB
 have BK0 := n0_
 have HB := n1_
 clear n0_ n1_
 have p129 : 0 ≤ ((ji17) : Int) := of_decide_eq_true (by first | (with_reducible assumption) | assumption)
 have q129 : (ji17) < (l0_1.length : Int) := of_decide_eq_true (by first | (with_reducible assumption) | assumption)
 obtain ⟨ad129, A129_7, c129_7, e129, hx129_0, hx129_1, hx129_2, hx129_3, hx129_4, hx129_5, hx129_6, hx129_7, hl129_7, hi129_7⟩ := at_T81 HR0_1.out (ji17) p129 q129
 have hw129_7 := hx129_7
 have hw129_6 := hx129_6
 have hw129_5 := hx129_5
 have hw129_4 := hx129_4
 have hw129_3 := hx129_3
 have hw129_2 := hx129_2
 have hw129_1 := hx129_1
 have hw129_0 := hx129_0
 obtain rfl : ad126 = ad129 := (by injection e129)
 replace hx129_0 := (HB.out.cell (World.block_lt_of_cell? w _ hx129_0)).trans hx129_0
 replace hx129_1 := (HB.out.cell (World.block_lt_of_cell? w _ hx129_1)).trans hx129_1
 replace hx129_2 := (HB.out.cell (World.block_lt_of_cell? w _ hx129_2)).trans hx129_2
 replace hx129_3 := (HB.out.cell (World.block_lt_of_cell? w _ hx129_3)).trans hx129_3
 replace hx129_4 := (HB.out.cell (World.block_lt_of_cell? w _ hx129_4)).trans hx129_4
 replace hx129_5 := (HB.out.cell (World.block_lt_of_cell? w _ hx129_5)).trans hx129_5
 replace hx129_6 := (HB.out.cell (World.block_lt_of_cell? w _ hx129_6)).trans hx129_6
 replace hx129_7 := (HB.out.cell (World.block_lt_of_cell? w _ hx129_7)).trans hx129_7
 have HR129_7 := Aside0.mk hi129_7
 have HC129_7 := Aside0.mk hl129_7
 clear hi129_7 hl129_7
 replace p129 := eq_true p129
 replace q129 := eq_true q129
 have p130 : 0 ≤ (x24_1 : Int) := of_decide_eq_true (by first | (with_reducible assumption) | assumption)
 have q130 : x24_1 < (l0_1.length : Int) := of_decide_eq_true (by first | (with_reducible assumption) | assumption)
 obtain ⟨ad130, A130_7, c130_7, e130, hx130_0, hx130_1, hx130_2, hx130_3, hx130_4, hx130_5, hx130_6, hx130_7, hl130_7, hi130_7⟩ := at_T81 HR0_1.out x24_1 p130 q130
 have hw130_7 := hx130_7
 have hw130_6 := hx130_6
 have hw130_5 := hx130_5
 have hw130_4 := hx130_4
 have hw130_3 := hx130_3
 have hw130_2 := hx130_2
 have hw130_1 := hx130_1
 have hw130_0 := hx130_0
 obtain rfl : ad126 = ad130 := (by injection e130)
 replace hx130_0 := (HB.out.cell (World.block_lt_of_cell? w _ hx130_0)).trans hx130_0
 replace hx130_1 := (HB.out.cell (World.block_lt_of_cell? w _ hx130_1)).trans hx130_1
 replace hx130_2 := (HB.out.cell (World.block_lt_of_cell? w _ hx130_2)).trans hx130_2
 replace hx130_3 := (HB.out.cell (World.block_lt_of_cell? w _ hx130_3)).trans hx130_3
 replace hx130_4 := (HB.out.cell (World.block_lt_of_cell? w _ hx130_4)).trans hx130_4
 replace hx130_5 := (HB.out.cell (World.block_lt_of_cell? w _ hx130_5)).trans hx130_5
 replace hx130_6 := (HB.out.cell (World.block_lt_of_cell? w _ hx130_6)).trans hx130_6
 replace hx130_7 := (HB.out.cell (World.block_lt_of_cell? w _ hx130_7)).trans hx130_7
 have HR130_7 := Aside0.mk hi130_7
 have HC130_7 := Aside0.mk hl130_7
 clear hi130_7 hl130_7
 replace p130 := eq_true p130
 replace q130 := eq_true q130
 refine start_ (n := 34) (S := fun w' => w'.cell? ⟨g0_, 0, none⟩ = some (.int .i64 a0_0) ∧ w'.cell? ⟨g0_, 1, none⟩ = some (.slice (some ad126) l0_1.length c0_1) ∧ w'.cell? (ad126.add (((ji17)).toNat * 8)) = some (.int .i64 ((rd_T81 l0_1 (ji17)).f0)) ∧ w'.cell? ⟨(ad126.add (((ji17)).toNat * 8)).block, (ad126.add (((ji17)).toNat * 8)).off + 1, none⟩ = some (.int .i64 ((rd_T81 l0_1 (ji17)).f1)) ∧ w'.cell? ⟨(ad126.add (((ji17)).toNat * 8)).block, (ad126.add (((ji17)).toNat * 8)).off + 2, none⟩ = some (.int .i64 ((rd_T81 l0_1 (ji17)).f2)) ∧ w'.cell? ⟨(ad126.add (((ji17)).toNat * 8)).block, (ad126.add (((ji17)).toNat * 8)).off + 3, none⟩ = some (.string ((rd_T81 l0_1 (ji17)).f3)) ∧ w'.cell? ⟨(ad126.add (((ji17)).toNat * 8)).block, (ad126.add (((ji17)).toNat * 8)).off + 4, none⟩ = some (.int .i64 ((rd_T81 l0_1 (ji17)).f4)) ∧ w'.cell? ⟨(ad126.add (((ji17)).toNat * 8)).block, (ad126.add (((ji17)).toNat * 8)).off + 5, none⟩ = some (.bool ((rd_T81 l0_1 (ji17)).f5)) ∧ w'.cell? ⟨(ad126.add (((ji17)).toNat * 8)).block, (ad126.add (((ji17)).toNat * 8)).off + 6, none⟩ = some (.int .i64 ((rd_T81 l0_1 (ji17)).f6)) ∧ w'.cell? ⟨(ad126.add (((ji17)).toNat * 8)).block, (ad126.add (((ji17)).toNat * 8)).off + 7, none⟩ = some (.slice A129_7 ((rd_T81 l0_1 (ji17)).f7).length c129_7) ∧ w'.cell? (ad126.add ((x24_1).toNat * 8)) = some (.int .i64 ((rd_T81 l0_1 x24_1).f0)) ∧ w'.cell? ⟨(ad126.add ((x24_1).toNat * 8)).block, (ad126.add ((x24_1).toNat * 8)).off + 1, none⟩ = some (.int .i64 ((rd_T81 l0_1 x24_1).f1)) ∧ w'.cell? ⟨(ad126.add ((x24_1).toNat * 8)).block, (ad126.add ((x24_1).toNat * 8)).off + 2, none⟩ = some (.int .i64 ((rd_T81 l0_1 x24_1).f2)) ∧ w'.cell? ⟨(ad126.add ((x24_1).toNat * 8)).block, (ad126.add ((x24_1).toNat * 8)).off + 3, none⟩ = some (.string ((rd_T81 l0_1 x24_1).f3)) ∧ w'.cell? ⟨(ad126.add ((x24_1).toNat * 8)).block, (ad126.add ((x24_1).toNat * 8)).off + 4, none⟩ = some (.int .i64 ((rd_T81 l0_1 x24_1).f4)) ∧ w'.cell? ⟨(ad126.add ((x24_1).toNat * 8)).block, (ad126.add ((x24_1).toNat * 8)).off + 5, none⟩ = some (.bool ((rd_T81 l0_1 x24_1).f5)) ∧ w'.cell? ⟨(ad126.add ((x24_1).toNat * 8)).block, (ad126.add ((x24_1).toNat * 8)).off + 6, none⟩ = some (.int .i64 ((rd_T81 l0_1 x24_1).f6)) ∧ w'.cell? ⟨(ad126.add ((x24_1).toNat * 8)).block, (ad126.add ((x24_1).toNat * 8)).off + 7, none⟩ = some (.slice A130_7 ((rd_T81 l0_1 x24_1).f7).length c130_7)) (ds := []) m15_ s2_ rfl rfl ⟨(blk_cell BK0.out 0).trans rfl, (blk_cell BK0.out 1).trans rfl, ((HB.out.cell (World.block_lt_of_cell? w _ hw129_0)).trans hw129_0), ((HB.out.cell (World.block_lt_of_cell? w _ hw129_1)).trans hw129_1), ((HB.out.cell (World.block_lt_of_cell? w _ hw129_2)).trans hw129_2), ((HB.out.cell (World.block_lt_of_cell? w _ hw129_3)).trans hw129_3), ((HB.out.cell (World.block_lt_of_cell? w _ hw129_4)).trans hw129_4), ((HB.out.cell (World.block_lt_of_cell? w _ hw129_5)).trans hw129_5), ((HB.out.cell (World.block_lt_of_cell? w _ hw129_6)).trans hw129_6), ((HB.out.cell (World.block_lt_of_cell? w _ hw129_7)).trans hw129_7), ((HB.out.cell (World.block_lt_of_cell? w _ hw130_0)).trans hw130_0), ((HB.out.cell (World.block_lt_of_cell? w _ hw130_1)).trans hw130_1), ((HB.out.cell (World.block_lt_of_cell? w _ hw130_2)).trans hw130_2), ((HB.out.cell (World.block_lt_of_cell? w _ hw130_3)).trans hw130_3), ((HB.out.cell (World.block_lt_of_cell? w _ hw130_4)).trans hw130_4), ((HB.out.cell (World.block_lt_of_cell? w _ hw130_5)).trans hw130_5), ((HB.out.cell (World.block_lt_of_cell? w _ hw130_6)).trans hw130_6), ((HB.out.cell (World.block_lt_of_cell? w _ hw130_7)).trans hw130_7)⟩ (fun hHeld => ?_); refine with_tabW spec_l03Is.tab9 spec_l03Is.bits9 (fun HT_ HW_ => ?_)
 generalize w23.drew = w24 at BK0 HB HR129_7 HR130_7 hx129_0 hx129_1 hx129_2 hx129_3 hx129_4 hx129_5 hx129_6 hx129_7 hx130_0 hx130_1 hx130_2 hx130_3 hx130_4 hx130_5 hx130_6 hx130_7 hHeld ⊢
 refine pu_ 0 47 m16_ (any_of HT_.out s2_) ?_
 refine pu_ 1 48 m17_ (any_of HT_.out s2_) ?_
 refine pu_ 2 49 m18_ (any_of HT_.out s2_) ?_
 refine pu_ 3 50 m19_ (any_of HT_.out s2_) ?_
 refine pu_ 4 51 m20_ (any_of HT_.out s2_) ?_
 refine pu_ 5 52 m21_ (any_of HT_.out s2_) ?_
 refine pu_ 7 54 m22_ (any_of HT_.out s2_) ?_
 refine pu_ 8 55 m23_ (any_of HT_.out s2_) ?_
 refine pu_ 12 59 m24_ (any_of HT_.out s2_) ?_
 refine pu_ 13 60 m25_ (any_of HT_.out s2_) ?_
 refine pu_ 14 61 m26_ (any_of HT_.out s2_) ?_
 refine take_ (i := 6) (N := some 53) (v := ?_) (a' := ?_) m27_ rfl rfl (take_ofW HT_.out HW_.out s2_) (fun _ _ _ h => h) (Or.inl ⟨by rfl, ?_⟩) hHeld ?_ ?_
 rotate_left
 {
 rintro w' ⟨s0, s1, s2, s3, s4, s5, s6, s7, s8, s9, s10, s11, s12, s13, s14, s15, s16, s17⟩
 go_simp
 with_reducible rfl}
 rotate_left
 · exact p1_
 refine pu_ 9 56 m28_ (any_of HT_.out s2_) ?_
 refine pu_ 10 57 m29_ (any_of HT_.out s2_) ?_
 refine take_ (i := 11) (N := some 58) (v := ?_) (a' := ?_) m30_ rfl rfl (take_ofW HT_.out HW_.out s2_) (fun _ _ _ h => h) (Or.inl ⟨by rfl, ?_⟩) hHeld ?_ ?_
 rotate_left
 {
 rintro w' ⟨s0, s1, s2, s3, s4, s5, s6, s7, s8, s9, s10, s11, s12, s13, s14, s15, s16, s17⟩
 go_simp
 with_reducible rfl}
 rotate_left
 · exact p1_
 refine take_ (i := 15) (N := some 62) (v := ?_) (a' := ?_) m31_ rfl rfl (take_ofW HT_.out HW_.out s2_) (fun _ _ _ h => h) (Or.inl ⟨by rfl, ?_⟩) hHeld ?_ ?_
 rotate_left
 {
 rintro w' ⟨s0, s1, s2, s3, s4, s5, s6, s7, s8, s9, s10, s11, s12, s13, s14, s15, s16, s17⟩
 go_simp
 with_reducible rfl}
 rotate_left
 · exact p1_
 refine pu_ 16 63 m32_ (any_of HT_.out s2_) ?_
 refine pu_ 17 64 m33_ (any_of HT_.out s2_) ?_
 refine pn_ 18 65 m34_ (any_of HT_.out s2_) ?_
 refine pn_ 19 66 m35_ (any_of HT_.out s2_) ?_
 refine pn_ 20 67 m36_ (any_of HT_.out s2_) ?_
 refine pn_ 21 68 m37_ (any_of HT_.out s2_) ?_
 refine pn_ 22 69 m38_ (any_of HT_.out s2_) ?_
 refine pn_ 23 70 m39_ (any_of HT_.out s2_) ?_
 refine pn_ 24 71 m40_ (any_of HT_.out s2_) ?_
 refine pn_ 25 72 m41_ (any_of HT_.out s2_) ?_
 refine pn_ 26 73 m42_ (any_of HT_.out s2_) ?_
 refine pn_ 27 74 m43_ (any_of HT_.out s2_) ?_
 refine pn_ 28 75 m44_ (any_of HT_.out s2_) ?_
 refine pn_ 29 76 m45_ (any_of HT_.out s2_) ?_
 refine pn_ 30 77 m46_ (any_of HT_.out s2_) ?_
 refine pn_ 31 78 m47_ (any_of HT_.out s2_) ?_
 refine pu_ 32 79 m48_ (any_of HT_.out s2_) ?_
 refine pu_ 33 80 m49_ (any_of HT_.out s2_) ?_
 refine done_ (done_of HT_.out s2_) ?_
 try go_wp2
 go_ret
 exact ⟨by first | rfl | (simp [errW_none, errW_some] <;> rfl) | (simp only [← hji17]; first | rfl | (simp [errW_none, errW_some] <;> rfl)) | (simp [*, errW_none, errW_some] <;> rfl), by repeat (first | (with_reducible first | exact HB.out | apply below_alloc | apply pw_below_drewN | apply below_drew1 | refine below_set ?_ GE0.out) | exact HB.out)⟩}
 {
 rw [if_neg c20] at H
 have c20b0 : decide (((rd_T81 l0_1 x24_1).f0) ≤ ((rd_T81 l0_1 (ji17)).f0)) = false := decide_eq_false c20
 clear c20
 by_cases c25 : ((rd_T81 l0_1 (ji17)).f2) > ((rd_T81 l0_1 x24_1).f2)
 {
 rw [if_pos c25] at H
 have c25b0 : decide (((rd_T81 l0_1 x24_1).f2) < ((rd_T81 l0_1 (ji17)).f2)) = true := decide_eq_true c25
 clear c25
 obtain rfl := Option.some.inj H
 have hcz26_0 : wr.cell? ⟨g0_, 0, none⟩ = some (.int .i64 a0_0) := (blk_cell BK0.out 0).trans rfl
 have hcz26_1 : wr.cell? ⟨g0_, 1, none⟩ = some (.slice A0_1 l0_1.length c0_1) := (blk_cell BK0.out 1).trans rfl
 have hfz26_0 := blk_frozen BK0.out 0
 have hfz26_1 := blk_frozen BK0.out 1
 have p126 : 0 ≤ (x24_1 : Int) := of_decide_eq_true (by first | (with_reducible assumption) | assumption)
 have q126 : x24_1 < (l0_1.length : Int) := of_decide_eq_true (by first | (with_reducible assumption) | assumption)
 obtain ⟨ad126, A126_7, c126_7, e126, hx126_0, hx126_1, hx126_2, hx126_3, hx126_4, hx126_5, hx126_6, hx126_7, hl126_7, hi126_7⟩ := at_T81 HR0_1.out x24_1 p126 q126
 cases e126
 replace hx126_0 := (HB.out.cell (World.block_lt_of_cell? w _ hx126_0)).trans hx126_0
 replace hx126_1 := (HB.out.cell (World.block_lt_of_cell? w _ hx126_1)).trans hx126_1
 replace hx126_2 := (HB.out.cell (World.block_lt_of_cell? w _ hx126_2)).trans hx126_2
 replace hx126_3 := (HB.out.cell (World.block_lt_of_cell? w _ hx126_3)).trans hx126_3
 replace hx126_4 := (HB.out.cell (World.block_lt_of_cell? w _ hx126_4)).trans hx126_4
 replace hx126_5 := (HB.out.cell (World.block_lt_of_cell? w _ hx126_5)).trans hx126_5
 replace hx126_6 := (HB.out.cell (World.block_lt_of_cell? w _ hx126_6)).trans hx126_6
 replace hx126_7 := (HB.out.cell (World.block_lt_of_cell? w _ hx126_7)).trans hx126_7
 have HR126_7 := Aside0.mk hi126_7
 have HC126_7 := Aside0.mk hl126_7
 clear hi126_7 hl126_7
 replace p126 := eq_true p126
 replace q126 := eq_true q126
 try go_wp2
 have n0_ := Aside0.mk (blk_drew BK0.out)
 have n1_ := Aside0.mk (below_drew1 HB.out)
 clear BK0
 clear HB
 have BK0 := n0_
 have HB := n1_
 clear n0_ n1_
 have p128 : 0 ≤ (x24_1 : Int) := of_decide_eq_true (by first | (with_reducible assumption) | assumption)
 have q128 : x24_1 < (l0_1.length : Int) := of_decide_eq_true (by first | (with_reducible assumption) | assumption)
 obtain ⟨ad128, A128_7, c128_7, e128, hx128_0, hx128_1, hx128_2, hx128_3, hx128_4, hx128_5, hx128_6, hx128_7, hl128_7, hi128_7⟩ := at_T81 HR0_1.out x24_1 p128 q128
 have hw128_7 := hx128_7
 have hw128_6 := hx128_6
 have hw128_5 := hx128_5
 have hw128_4 := hx128_4
 have hw128_3 := hx128_3
 have hw128_2 := hx128_2
 have hw128_1 := hx128_1
 have hw128_0 := hx128_0
 obtain rfl : ad126 = ad128 := (by injection e128)
 replace hx128_0 := (HB.out.cell (World.block_lt_of_cell? w _ hx128_0)).trans hx128_0
 replace hx128_1 := (HB.out.cell (World.block_lt_of_cell? w _ hx128_1)).trans hx128_1
 replace hx128_2 := (HB.out.cell (World.block_lt_of_cell? w _ hx128_2)).trans hx128_2
 replace hx128_3 := (HB.out.cell (World.block_lt_of_cell? w _ hx128_3)).trans hx128_3
 replace hx128_4 := (HB.out.cell (World.block_lt_of_cell? w _ hx128_4)).trans hx128_4
 replace hx128_5 := (HB.out.cell (World.block_lt_of_cell? w _ hx128_5)).trans hx128_5
 replace hx128_6 := (HB.out.cell (World.block_lt_of_cell? w _ hx128_6)).trans hx128_6
 replace hx128_7 := (HB.out.cell (World.block_lt_of_cell? w _ hx128_7)).trans hx128_7
 have HR128_7 := Aside0.mk hi128_7
 have HC128_7 := Aside0.mk hl128_7
 clear hi128_7 hl128_7
 replace p128 := eq_true p128
 replace q128 := eq_true q128
 refine start_ (n := 14) (S := fun w' => w'.cell? ⟨g0_, 0, none⟩ = some (.int .i64 a0_0) ∧ w'.cell? ⟨g0_, 1, none⟩ = some (.slice (some ad126) l0_1.length c0_1) ∧ w'.cell? (ad126.add ((x24_1).toNat * 8)) = some (.int .i64 ((rd_T81 l0_1 x24_1).f0)) ∧ w'.cell? ⟨(ad126.add ((x24_1).toNat * 8)).block, (ad126.add ((x24_1).toNat * 8)).off + 1, none⟩ = some (.int .i64 ((rd_T81 l0_1 x24_1).f1)) ∧ w'.cell? ⟨(ad126.add ((x24_1).toNat * 8)).block, (ad126.add ((x24_1).toNat * 8)).off + 2, none⟩ = some (.int .i64 ((rd_T81 l0_1 x24_1).f2)) ∧ w'.cell? ⟨(ad126.add ((x24_1).toNat * 8)).block, (ad126.add ((x24_1).toNat * 8)).off + 3, none⟩ = some (.string ((rd_T81 l0_1 x24_1).f3)) ∧ w'.cell? ⟨(ad126.add ((x24_1).toNat * 8)).block, (ad126.add ((x24_1).toNat * 8)).off + 4, none⟩ = some (.int .i64 ((rd_T81 l0_1 x24_1).f4)) ∧ w'.cell? ⟨(ad126.add ((x24_1).toNat * 8)).block, (ad126.add ((x24_1).toNat * 8)).off + 5, none⟩ = some (.bool ((rd_T81 l0_1 x24_1).f5)) ∧ w'.cell? ⟨(ad126.add ((x24_1).toNat * 8)).block, (ad126.add ((x24_1).toNat * 8)).off + 6, none⟩ = some (.int .i64 ((rd_T81 l0_1 x24_1).f6)) ∧ w'.cell? ⟨(ad126.add ((x24_1).toNat * 8)).block, (ad126.add ((x24_1).toNat * 8)).off + 7, none⟩ = some (.slice A128_7 ((rd_T81 l0_1 x24_1).f7).length c128_7)) (ds := []) m0_ s2_ rfl rfl ⟨(blk_cell BK0.out 0).trans rfl, (blk_cell BK0.out 1).trans rfl, ((HB.out.cell (World.block_lt_of_cell? w _ hw128_0)).trans hw128_0), ((HB.out.cell (World.block_lt_of_cell? w _ hw128_1)).trans hw128_1), ((HB.out.cell (World.block_lt_of_cell? w _ hw128_2)).trans hw128_2), ((HB.out.cell (World.block_lt_of_cell? w _ hw128_3)).trans hw128_3), ((HB.out.cell (World.block_lt_of_cell? w _ hw128_4)).trans hw128_4), ((HB.out.cell (World.block_lt_of_cell? w _ hw128_5)).trans hw128_5), ((HB.out.cell (World.block_lt_of_cell? w _ hw128_6)).trans hw128_6), ((HB.out.cell (World.block_lt_of_cell? w _ hw128_7)).trans hw128_7)⟩ (fun hHeld => ?_); refine with_tabW spec_l03Is.tab7 spec_l03Is.bits7 (fun HT_ HW_ => ?_)
 generalize wr.drew = w27 at BK0 HB HR128_7 hx128_0 hx128_1 hx128_2 hx128_3 hx128_4 hx128_5 hx128_6 hx128_7 hHeld ⊢
 refine pu_ 0 33 m1_ (any_of HT_.out s2_) ?_
 refine one_ (i := 1) (N := some 34) m2_ rfl rfl (one_of HT_.out s2_) (by decide) (fun K hK => ?_)
 refine goes_ Try.func57 s2_ rfl #[.pointer (some (ad126.add ((x24_1).toNat * 8)))] (by rfl) rfl rfl s3_ ?_
 with_reducible refine (spec_l03Message_v0.calls k1 ad126 c0_1 l0_1 x24_1 true _ ?side1 ?side2 A10.out).mono ?_
 (case side1 => repeat (first | exact (Kd.C_below HR0_1.out HB.out) | (with_reducible refine Kd.C_alloc ?_ _) | (with_reducible refine Kd.C_drewN ?_ _) | (with_reducible refine Kd.C_drew ?_)))
 (case side2 => exact HC0_1.out)
 rintro e w28 ⟨rfl, hb⟩
 refine ⟨_, rfl, ?_⟩
 have n0_ := Aside0.mk (blk_below (g := g0_) (o := .cells #[.int .i64 a0_0, .slice (some ad126) l0_1.length c0_1] 38 (0, 0)) (b1_ BK0.out) hb)
 have n1_ := Aside0.mk (below_step (by repeat (first | (with_reducible first | exact HB.out | apply below_alloc | apply pw_below_drewN | apply below_drew1 | refine below_set ?_ GE0.out) | exact HB.out)) hb)
 clear BK0
 clear HB
 have BK0 := n0_
 have HB := n1_
 clear n0_ n1_
 (try clear hb)
 (try clear hb2)
 (try clear hk)
 (try clear hi)
 refine hK.out _ _ ⟨(blk_cell BK0.out 0).trans rfl, (blk_cell BK0.out 1).trans rfl, ((HB.out.cell (World.block_lt_of_cell? w _ hw128_0)).trans hw128_0), ((HB.out.cell (World.block_lt_of_cell? w _ hw128_1)).trans hw128_1), ((HB.out.cell (World.block_lt_of_cell? w _ hw128_2)).trans hw128_2), ((HB.out.cell (World.block_lt_of_cell? w _ hw128_3)).trans hw128_3), ((HB.out.cell (World.block_lt_of_cell? w _ hw128_4)).trans hw128_4), ((HB.out.cell (World.block_lt_of_cell? w _ hw128_5)).trans hw128_5), ((HB.out.cell (World.block_lt_of_cell? w _ hw128_6)).trans hw128_6), ((HB.out.cell (World.block_lt_of_cell? w _ hw128_7)).trans hw128_7)⟩ (fun hHeld => ?_)
 clear hK K
 refine norm_ (a' := ?_) ?_ ?_
 rotate_left
 {
 show Act.put _ (some 34) _ = _
 simp only [Act.put, List.setIfInBounds_toArray, List.set_cons_zero, List.set_cons_succ, i64_w, i32_w]
 rfl}
 refine pu_ 2 35 m3_ (any_of HT_.out s2_) ?_
 refine pu_ 3 36 m4_ (any_of HT_.out s2_) ?_
 refine pu_ 4 37 m5_ (any_of HT_.out s2_) ?_
 refine pu_ 5 38 m6_ (any_of HT_.out s2_) ?_
 refine pu_ 6 39 m7_ (any_of HT_.out s2_) ?_
 refine pu_ 8 41 m8_ (any_of HT_.out s2_) ?_
 refine pu_ 9 42 m9_ (any_of HT_.out s2_) ?_
 refine pu_ 10 43 m10_ (any_of HT_.out s2_) ?_
 refine take_ (i := 7) (N := some 40) (v := ?_) (a' := ?_) m11_ rfl rfl (take_ofW HT_.out HW_.out s2_) (fun _ _ _ h => h) (Or.inl ⟨by rfl, ?_⟩) hHeld ?_ ?_
 rotate_left
 {
 rintro w' ⟨s0, s1, s2, s3, s4, s5, s6, s7, s8, s9⟩
 go_simp
 with_reducible rfl}
 rotate_left
 · exact p1_
 refine take_ (i := 11) (N := some 44) (v := ?_) (a' := ?_) m12_ rfl rfl (take_ofW HT_.out HW_.out s2_) (fun _ _ _ h => h) (Or.inl ⟨by rfl, ?_⟩) hHeld ?_ ?_
 rotate_left
 {
 rintro w' ⟨s0, s1, s2, s3, s4, s5, s6, s7, s8, s9⟩
 go_simp
 with_reducible rfl}
 rotate_left
 · exact p1_
 refine pu_ 12 45 m13_ (any_of HT_.out s2_) ?_
 refine pu_ 13 46 m14_ (any_of HT_.out s2_) ?_
 refine done_ (done_of HT_.out s2_) ?_
 try go_wp2
 have n0_ := Aside0.mk (blk_drew BK0.out)
 have n1_ := Aside0.mk (below_drew1 HB.out)
 clear BK0
 clear HB
 have BK0 := n0_
 have HB := n1_
 clear n0_ n1_
 have p129 : 0 ≤ ((ji17) : Int) := of_decide_eq_true (by first | (with_reducible assumption) | assumption)
 have q129 : (ji17) < (l0_1.length : Int) := of_decide_eq_true (by first | (with_reducible assumption) | assumption)
 obtain ⟨ad129, A129_7, c129_7, e129, hx129_0, hx129_1, hx129_2, hx129_3, hx129_4, hx129_5, hx129_6, hx129_7, hl129_7, hi129_7⟩ := at_T81 HR0_1.out (ji17) p129 q129
 have hw129_7 := hx129_7
 have hw129_6 := hx129_6
 have hw129_5 := hx129_5
 have hw129_4 := hx129_4
 have hw129_3 := hx129_3
 have hw129_2 := hx129_2
 have hw129_1 := hx129_1
 have hw129_0 := hx129_0
 obtain rfl : ad126 = ad129 := (by injection e129)
 replace hx129_0 := (HB.out.cell (World.block_lt_of_cell? w _ hx129_0)).trans hx129_0
 replace hx129_1 := (HB.out.cell (World.block_lt_of_cell? w _ hx129_1)).trans hx129_1
 replace hx129_2 := (HB.out.cell (World.block_lt_of_cell? w _ hx129_2)).trans hx129_2
 replace hx129_3 := (HB.out.cell (World.block_lt_of_cell? w _ hx129_3)).trans hx129_3
 replace hx129_4 := (HB.out.cell (World.block_lt_of_cell? w _ hx129_4)).trans hx129_4
 replace hx129_5 := (HB.out.cell (World.block_lt_of_cell? w _ hx129_5)).trans hx129_5
 replace hx129_6 := (HB.out.cell (World.block_lt_of_cell? w _ hx129_6)).trans hx129_6
 replace hx129_7 := (HB.out.cell (World.block_lt_of_cell? w _ hx129_7)).trans hx129_7
 have HR129_7 := Aside0.mk hi129_7
 have HC129_7 := Aside0.mk hl129_7
 clear hi129_7 hl129_7
 replace p129 := eq_true p129
 replace q129 := eq_true q129
 have p130 : 0 ≤ (x24_1 : Int) := of_decide_eq_true (by first | (with_reducible assumption) | assumption)
 have q130 : x24_1 < (l0_1.length : Int) := of_decide_eq_true (by first | (with_reducible assumption) | assumption)
 obtain ⟨ad130, A130_7, c130_7, e130, hx130_0, hx130_1, hx130_2, hx130_3, hx130_4, hx130_5, hx130_6, hx130_7, hl130_7, hi130_7⟩ := at_T81 HR0_1.out x24_1 p130 q130
 have hw130_7 := hx130_7
 have hw130_6 := hx130_6
 have hw130_5 := hx130_5
 have hw130_4 := hx130_4
 have hw130_3 := hx130_3
 have hw130_2 := hx130_2
 have hw130_1 := hx130_1
 have hw130_0 := hx130_0
 obtain rfl : ad126 = ad130 := (by injection e130)
 replace hx130_0 := (HB.out.cell (World.block_lt_of_cell? w _ hx130_0)).trans hx130_0
 replace hx130_1 := (HB.out.cell (World.block_lt_of_cell? w _ hx130_1)).trans hx130_1
 replace hx130_2 := (HB.out.cell (World.block_lt_of_cell? w _ hx130_2)).trans hx130_2
 replace hx130_3 := (HB.out.cell (World.block_lt_of_cell? w _ hx130_3)).trans hx130_3
 replace hx130_4 := (HB.out.cell (World.block_lt_of_cell? w _ hx130_4)).trans hx130_4
 replace hx130_5 := (HB.out.cell (World.block_lt_of_cell? w _ hx130_5)).trans hx130_5
 replace hx130_6 := (HB.out.cell (World.block_lt_of_cell? w _ hx130_6)).trans hx130_6
 replace hx130_7 := (HB.out.cell (World.block_lt_of_cell? w _ hx130_7)).trans hx130_7
 have HR130_7 := Aside0.mk hi130_7
 have HC130_7 := Aside0.mk hl130_7
 clear hi130_7 hl130_7
 replace p130 := eq_true p130
 replace q130 := eq_true q130
 have p131 : 0 ≤ ((ji17) : Int) := of_decide_eq_true (by first | (with_reducible assumption) | assumption)
 have q131 : (ji17) < (l0_1.length : Int) := of_decide_eq_true (by first | (with_reducible assumption) | assumption)
 obtain ⟨ad131, A131_7, c131_7, e131, hx131_0, hx131_1, hx131_2, hx131_3, hx131_4, hx131_5, hx131_6, hx131_7, hl131_7, hi131_7⟩ := at_T81 HR0_1.out (ji17) p131 q131
 have hw131_7 := hx131_7
 have hw131_6 := hx131_6
 have hw131_5 := hx131_5
 have hw131_4 := hx131_4
 have hw131_3 := hx131_3
 have hw131_2 := hx131_2
 have hw131_1 := hx131_1
 have hw131_0 := hx131_0
 obtain rfl : ad126 = ad131 := (by injection e131)
 replace hx131_0 := (HB.out.cell (World.block_lt_of_cell? w _ hx131_0)).trans hx131_0
 replace hx131_1 := (HB.out.cell (World.block_lt_of_cell? w _ hx131_1)).trans hx131_1
 replace hx131_2 := (HB.out.cell (World.block_lt_of_cell? w _ hx131_2)).trans hx131_2
 replace hx131_3 := (HB.out.cell (World.block_lt_of_cell? w _ hx131_3)).trans hx131_3
 replace hx131_4 := (HB.out.cell (World.block_lt_of_cell? w _ hx131_4)).trans hx131_4
 replace hx131_5 := (HB.out.cell (World.block_lt_of_cell? w _ hx131_5)).trans hx131_5
 replace hx131_6 := (HB.out.cell (World.block_lt_of_cell? w _ hx131_6)).trans hx131_6
 replace hx131_7 := (HB.out.cell (World.block_lt_of_cell? w _ hx131_7)).trans hx131_7
 have HR131_7 := Aside0.mk hi131_7
 have HC131_7 := Aside0.mk hl131_7
 clear hi131_7 hl131_7
 replace p131 := eq_true p131
 replace q131 := eq_true q131
 have ea_ := Option.some.inj (hx129_7.symm.trans hx131_7)
 injection ea_ with ea_ en_ ec_
 subst ea_
 subst ec_
 clear en_
 refine start_ (n := 34) (S := fun w' => w'.cell? ⟨g0_, 0, none⟩ = some (.int .i64 a0_0) ∧ w'.cell? ⟨g0_, 1, none⟩ = some (.slice (some ad126) l0_1.length c0_1) ∧ w'.cell? (ad126.add (((ji17)).toNat * 8)) = some (.int .i64 ((rd_T81 l0_1 (ji17)).f0)) ∧ w'.cell? ⟨(ad126.add (((ji17)).toNat * 8)).block, (ad126.add (((ji17)).toNat * 8)).off + 1, none⟩ = some (.int .i64 ((rd_T81 l0_1 (ji17)).f1)) ∧ w'.cell? ⟨(ad126.add (((ji17)).toNat * 8)).block, (ad126.add (((ji17)).toNat * 8)).off + 2, none⟩ = some (.int .i64 ((rd_T81 l0_1 (ji17)).f2)) ∧ w'.cell? ⟨(ad126.add (((ji17)).toNat * 8)).block, (ad126.add (((ji17)).toNat * 8)).off + 3, none⟩ = some (.string ((rd_T81 l0_1 (ji17)).f3)) ∧ w'.cell? ⟨(ad126.add (((ji17)).toNat * 8)).block, (ad126.add (((ji17)).toNat * 8)).off + 4, none⟩ = some (.int .i64 ((rd_T81 l0_1 (ji17)).f4)) ∧ w'.cell? ⟨(ad126.add (((ji17)).toNat * 8)).block, (ad126.add (((ji17)).toNat * 8)).off + 5, none⟩ = some (.bool ((rd_T81 l0_1 (ji17)).f5)) ∧ w'.cell? ⟨(ad126.add (((ji17)).toNat * 8)).block, (ad126.add (((ji17)).toNat * 8)).off + 6, none⟩ = some (.int .i64 ((rd_T81 l0_1 (ji17)).f6)) ∧ w'.cell? ⟨(ad126.add (((ji17)).toNat * 8)).block, (ad126.add (((ji17)).toNat * 8)).off + 7, none⟩ = some (.slice A129_7 ((rd_T81 l0_1 (ji17)).f7).length c129_7) ∧ w'.cell? (ad126.add ((x24_1).toNat * 8)) = some (.int .i64 ((rd_T81 l0_1 x24_1).f0)) ∧ w'.cell? ⟨(ad126.add ((x24_1).toNat * 8)).block, (ad126.add ((x24_1).toNat * 8)).off + 1, none⟩ = some (.int .i64 ((rd_T81 l0_1 x24_1).f1)) ∧ w'.cell? ⟨(ad126.add ((x24_1).toNat * 8)).block, (ad126.add ((x24_1).toNat * 8)).off + 2, none⟩ = some (.int .i64 ((rd_T81 l0_1 x24_1).f2)) ∧ w'.cell? ⟨(ad126.add ((x24_1).toNat * 8)).block, (ad126.add ((x24_1).toNat * 8)).off + 3, none⟩ = some (.string ((rd_T81 l0_1 x24_1).f3)) ∧ w'.cell? ⟨(ad126.add ((x24_1).toNat * 8)).block, (ad126.add ((x24_1).toNat * 8)).off + 4, none⟩ = some (.int .i64 ((rd_T81 l0_1 x24_1).f4)) ∧ w'.cell? ⟨(ad126.add ((x24_1).toNat * 8)).block, (ad126.add ((x24_1).toNat * 8)).off + 5, none⟩ = some (.bool ((rd_T81 l0_1 x24_1).f5)) ∧ w'.cell? ⟨(ad126.add ((x24_1).toNat * 8)).block, (ad126.add ((x24_1).toNat * 8)).off + 6, none⟩ = some (.int .i64 ((rd_T81 l0_1 x24_1).f6)) ∧ w'.cell? ⟨(ad126.add ((x24_1).toNat * 8)).block, (ad126.add ((x24_1).toNat * 8)).off + 7, none⟩ = some (.slice A130_7 ((rd_T81 l0_1 x24_1).f7).length c130_7) ∧ w'.cell? (ad126.add (((ji17)).toNat * 8)) = some (.int .i64 ((rd_T81 l0_1 (ji17)).f0)) ∧ w'.cell? ⟨(ad126.add (((ji17)).toNat * 8)).block, (ad126.add (((ji17)).toNat * 8)).off + 1, none⟩ = some (.int .i64 ((rd_T81 l0_1 (ji17)).f1)) ∧ w'.cell? ⟨(ad126.add (((ji17)).toNat * 8)).block, (ad126.add (((ji17)).toNat * 8)).off + 2, none⟩ = some (.int .i64 ((rd_T81 l0_1 (ji17)).f2)) ∧ w'.cell? ⟨(ad126.add (((ji17)).toNat * 8)).block, (ad126.add (((ji17)).toNat * 8)).off + 3, none⟩ = some (.string ((rd_T81 l0_1 (ji17)).f3)) ∧ w'.cell? ⟨(ad126.add (((ji17)).toNat * 8)).block, (ad126.add (((ji17)).toNat * 8)).off + 4, none⟩ = some (.int .i64 ((rd_T81 l0_1 (ji17)).f4)) ∧ w'.cell? ⟨(ad126.add (((ji17)).toNat * 8)).block, (ad126.add (((ji17)).toNat * 8)).off + 5, none⟩ = some (.bool ((rd_T81 l0_1 (ji17)).f5)) ∧ w'.cell? ⟨(ad126.add (((ji17)).toNat * 8)).block, (ad126.add (((ji17)).toNat * 8)).off + 6, none⟩ = some (.int .i64 ((rd_T81 l0_1 (ji17)).f6)) ∧ w'.cell? ⟨(ad126.add (((ji17)).toNat * 8)).block, (ad126.add (((ji17)).toNat * 8)).off + 7, none⟩ = some (.slice A129_7 ((rd_T81 l0_1 (ji17)).f7).length c129_7)) (ds := []) m15_ s2_ rfl rfl ⟨(blk_cell BK0.out 0).trans rfl, (blk_cell BK0.out 1).trans rfl, ((HB.out.cell (World.block_lt_of_cell? w _ hw129_0)).trans hw129_0), ((HB.out.cell (World.block_lt_of_cell? w _ hw129_1)).trans hw129_1), ((HB.out.cell (World.block_lt_of_cell? w _ hw129_2)).trans hw129_2), ((HB.out.cell (World.block_lt_of_cell? w _ hw129_3)).trans hw129_3), ((HB.out.cell (World.block_lt_of_cell? w _ hw129_4)).trans hw129_4), ((HB.out.cell (World.block_lt_of_cell? w _ hw129_5)).trans hw129_5), ((HB.out.cell (World.block_lt_of_cell? w _ hw129_6)).trans hw129_6), ((HB.out.cell (World.block_lt_of_cell? w _ hw129_7)).trans hw129_7), ((HB.out.cell (World.block_lt_of_cell? w _ hw130_0)).trans hw130_0), ((HB.out.cell (World.block_lt_of_cell? w _ hw130_1)).trans hw130_1), ((HB.out.cell (World.block_lt_of_cell? w _ hw130_2)).trans hw130_2), ((HB.out.cell (World.block_lt_of_cell? w _ hw130_3)).trans hw130_3), ((HB.out.cell (World.block_lt_of_cell? w _ hw130_4)).trans hw130_4), ((HB.out.cell (World.block_lt_of_cell? w _ hw130_5)).trans hw130_5), ((HB.out.cell (World.block_lt_of_cell? w _ hw130_6)).trans hw130_6), ((HB.out.cell (World.block_lt_of_cell? w _ hw130_7)).trans hw130_7), ((HB.out.cell (World.block_lt_of_cell? w _ hw131_0)).trans hw131_0), ((HB.out.cell (World.block_lt_of_cell? w _ hw131_1)).trans hw131_1), ((HB.out.cell (World.block_lt_of_cell? w _ hw131_2)).trans hw131_2), ((HB.out.cell (World.block_lt_of_cell? w _ hw131_3)).trans hw131_3), ((HB.out.cell (World.block_lt_of_cell? w _ hw131_4)).trans hw131_4), ((HB.out.cell (World.block_lt_of_cell? w _ hw131_5)).trans hw131_5), ((HB.out.cell (World.block_lt_of_cell? w _ hw131_6)).trans hw131_6), ((HB.out.cell (World.block_lt_of_cell? w _ hw131_7)).trans hw131_7)⟩ (fun hHeld => ?_); refine with_tabW spec_l03Is.tab9 spec_l03Is.bits9 (fun HT_ HW_ => ?_)
 generalize w28.drew = w29 at BK0 HB HR129_7 HR130_7 HR131_7 hx129_0 hx129_1 hx129_2 hx129_3 hx129_4 hx129_5 hx129_6 hx129_7 hx130_0 hx130_1 hx130_2 hx130_3 hx130_4 hx130_5 hx130_6 hx130_7 hx131_0 hx131_1 hx131_2 hx131_3 hx131_4 hx131_5 hx131_6 hx131_7 hHeld ⊢
 refine pu_ 0 47 m16_ (any_of HT_.out s2_) ?_
 refine pu_ 1 48 m17_ (any_of HT_.out s2_) ?_
 refine pu_ 2 49 m18_ (any_of HT_.out s2_) ?_
 refine pu_ 3 50 m19_ (any_of HT_.out s2_) ?_
 refine pu_ 4 51 m20_ (any_of HT_.out s2_) ?_
 refine pu_ 5 52 m21_ (any_of HT_.out s2_) ?_
 refine pu_ 7 54 m22_ (any_of HT_.out s2_) ?_
 refine pu_ 8 55 m23_ (any_of HT_.out s2_) ?_
 refine pu_ 12 59 m24_ (any_of HT_.out s2_) ?_
 refine pu_ 13 60 m25_ (any_of HT_.out s2_) ?_
 refine pu_ 14 61 m26_ (any_of HT_.out s2_) ?_
 refine take_ (i := 6) (N := some 53) (v := ?_) (a' := ?_) m27_ rfl rfl (take_ofW HT_.out HW_.out s2_) (fun _ _ _ h => h) (Or.inl ⟨by rfl, ?_⟩) hHeld ?_ ?_
 rotate_left
 {
 rintro w' ⟨s0, s1, s2, s3, s4, s5, s6, s7, s8, s9, s10, s11, s12, s13, s14, s15, s16, s17, s18, s19, s20, s21, s22, s23, s24, s25⟩
 go_simp
 with_reducible rfl}
 rotate_left
 · exact p1_
 refine pu_ 9 56 m28_ (any_of HT_.out s2_) ?_
 refine pu_ 10 57 m29_ (any_of HT_.out s2_) ?_
 refine take_ (i := 11) (N := some 58) (v := ?_) (a' := ?_) m30_ rfl rfl (take_ofW HT_.out HW_.out s2_) (fun _ _ _ h => h) (Or.inl ⟨by rfl, ?_⟩) hHeld ?_ ?_
 rotate_left
 {
 rintro w' ⟨s0, s1, s2, s3, s4, s5, s6, s7, s8, s9, s10, s11, s12, s13, s14, s15, s16, s17, s18, s19, s20, s21, s22, s23, s24, s25⟩
 go_simp
 with_reducible rfl}
 rotate_left
 · exact p1_
 refine take_ (i := 15) (N := some 62) (v := ?_) (a' := ?_) m31_ rfl rfl (take_ofW HT_.out HW_.out s2_) (fun _ _ _ h => h) (Or.inl ⟨by rfl, ?_⟩) hHeld ?_ ?_
 rotate_left
 {
 rintro w' ⟨s0, s1, s2, s3, s4, s5, s6, s7, s8, s9, s10, s11, s12, s13, s14, s15, s16, s17, s18, s19, s20, s21, s22, s23, s24, s25⟩
 go_simp
 with_reducible rfl}
 rotate_left
 · exact p1_
 refine pu_ 16 63 m32_ (any_of HT_.out s2_) ?_
 refine pu_ 17 64 m33_ (any_of HT_.out s2_) ?_
 refine pu_ 18 65 m34_ (any_of HT_.out s2_) ?_
 refine pu_ 19 66 m35_ (any_of HT_.out s2_) ?_
 refine pu_ 20 67 m36_ (any_of HT_.out s2_) ?_
 refine pu_ 22 69 m50_ (any_of HT_.out s2_) ?_
 refine pu_ 23 70 m51_ (any_of HT_.out s2_) ?_
 refine pu_ 27 74 m52_ (any_of HT_.out s2_) ?_
 refine pu_ 28 75 m53_ (any_of HT_.out s2_) ?_
 refine pu_ 29 76 m54_ (any_of HT_.out s2_) ?_
 refine take_ (i := 21) (N := some 68) (v := ?_) (a' := ?_) m55_ rfl rfl (take_ofW HT_.out HW_.out s2_) (fun _ _ _ h => h) (Or.inl ⟨by rfl, ?_⟩) hHeld ?_ ?_
 rotate_left
 {
 rintro w' ⟨s0, s1, s2, s3, s4, s5, s6, s7, s8, s9, s10, s11, s12, s13, s14, s15, s16, s17, s18, s19, s20, s21, s22, s23, s24, s25⟩
 go_simp
 with_reducible rfl}
 rotate_left
 · exact p1_
 refine pu_ 24 71 m56_ (any_of HT_.out s2_) ?_
 refine pu_ 25 72 m57_ (any_of HT_.out s2_) ?_
 refine take_ (i := 26) (N := some 73) (v := ?_) (a' := ?_) m45_ rfl rfl (take_ofW HT_.out HW_.out s2_) (fun _ _ _ h => h) (Or.inl ⟨by rfl, ?_⟩) hHeld ?_ ?_
 rotate_left
 {
 rintro w' ⟨s0, s1, s2, s3, s4, s5, s6, s7, s8, s9, s10, s11, s12, s13, s14, s15, s16, s17, s18, s19, s20, s21, s22, s23, s24, s25⟩
 go_simp
 with_reducible rfl}
 rotate_left
 · exact p1_
 refine take_ (i := 30) (N := some 77) (v := ?_) (a' := ?_) m46_ rfl rfl (take_ofW HT_.out HW_.out s2_) (fun _ _ _ h => h) (Or.inl ⟨by rfl, ?_⟩) hHeld ?_ ?_
 rotate_left
 {
 rintro w' ⟨s0, s1, s2, s3, s4, s5, s6, s7, s8, s9, s10, s11, s12, s13, s14, s15, s16, s17, s18, s19, s20, s21, s22, s23, s24, s25⟩
 go_simp
 with_reducible rfl}
 rotate_left
 · exact p1_
 refine pu_ 31 78 m47_ (any_of HT_.out s2_) ?_
 refine pu_ 32 79 m48_ (any_of HT_.out s2_) ?_
 refine pu_ 33 80 m49_ (any_of HT_.out s2_) ?_
 refine done_ (done_of HT_.out s2_) ?_
 try go_wp2
 go_ret
 exact ⟨by first | rfl | (simp [errW_none, errW_some] <;> rfl) | (simp only [← hji17]; first | rfl | (simp [errW_none, errW_some] <;> rfl)) | (simp [*, errW_none, errW_some] <;> rfl), by repeat (first | (with_reducible first | exact HB.out | apply below_alloc | apply pw_below_drewN | apply below_drew1 | refine below_set ?_ GE0.out) | exact HB.out)⟩}
 {
 rw [if_neg c25] at H
 have c25b0 : decide (((rd_T81 l0_1 x24_1).f2) < ((rd_T81 l0_1 (ji17)).f2)) = false := decide_eq_false c25
 clear c25
 have H' := Aside0.mk H
 clear H
 have hcz30_0 : wr.cell? ⟨g0_, 0, none⟩ = some (.int .i64 a0_0) := (blk_cell BK0.out 0).trans rfl
 have hcz30_1 : wr.cell? ⟨g0_, 1, none⟩ = some (.slice A0_1 l0_1.length c0_1) := (blk_cell BK0.out 1).trans rfl
 have hfz30_0 := blk_frozen BK0.out 0
 have hfz30_1 := blk_frozen BK0.out 1
 have p126 : 0 ≤ (x24_1 : Int) := of_decide_eq_true (by first | (with_reducible assumption) | assumption)
 have q126 : x24_1 < (l0_1.length : Int) := of_decide_eq_true (by first | (with_reducible assumption) | assumption)
 obtain ⟨ad126, A126_7, c126_7, e126, hx126_0, hx126_1, hx126_2, hx126_3, hx126_4, hx126_5, hx126_6, hx126_7, hl126_7, hi126_7⟩ := at_T81 HR0_1.out x24_1 p126 q126
 cases e126
 replace hx126_0 := (HB.out.cell (World.block_lt_of_cell? w _ hx126_0)).trans hx126_0
 replace hx126_1 := (HB.out.cell (World.block_lt_of_cell? w _ hx126_1)).trans hx126_1
 replace hx126_2 := (HB.out.cell (World.block_lt_of_cell? w _ hx126_2)).trans hx126_2
 replace hx126_3 := (HB.out.cell (World.block_lt_of_cell? w _ hx126_3)).trans hx126_3
 replace hx126_4 := (HB.out.cell (World.block_lt_of_cell? w _ hx126_4)).trans hx126_4
 replace hx126_5 := (HB.out.cell (World.block_lt_of_cell? w _ hx126_5)).trans hx126_5
 replace hx126_6 := (HB.out.cell (World.block_lt_of_cell? w _ hx126_6)).trans hx126_6
 replace hx126_7 := (HB.out.cell (World.block_lt_of_cell? w _ hx126_7)).trans hx126_7
 have HR126_7 := Aside0.mk hi126_7
 have HC126_7 := Aside0.mk hl126_7
 clear hi126_7 hl126_7
 replace p126 := eq_true p126
 replace q126 := eq_true q126
 try go_wp2
 have n0_ := Aside0.mk (blk_drew BK0.out)
 have n1_ := Aside0.mk (below_drew1 HB.out)
 clear BK0
 clear HB
 have BK0 := n0_
 have HB := n1_
 clear n0_ n1_
 have p128 : 0 ≤ (x24_1 : Int) := of_decide_eq_true (by first | (with_reducible assumption) | assumption)
 have q128 : x24_1 < (l0_1.length : Int) := of_decide_eq_true (by first | (with_reducible assumption) | assumption)
 obtain ⟨ad128, A128_7, c128_7, e128, hx128_0, hx128_1, hx128_2, hx128_3, hx128_4, hx128_5, hx128_6, hx128_7, hl128_7, hi128_7⟩ := at_T81 HR0_1.out x24_1 p128 q128
 have hw128_7 := hx128_7
 have hw128_6 := hx128_6
 have hw128_5 := hx128_5
 have hw128_4 := hx128_4
 have hw128_3 := hx128_3
 have hw128_2 := hx128_2
 have hw128_1 := hx128_1
 have hw128_0 := hx128_0
 obtain rfl : ad126 = ad128 := (by injection e128)
 replace hx128_0 := (HB.out.cell (World.block_lt_of_cell? w _ hx128_0)).trans hx128_0
 replace hx128_1 := (HB.out.cell (World.block_lt_of_cell? w _ hx128_1)).trans hx128_1
 replace hx128_2 := (HB.out.cell (World.block_lt_of_cell? w _ hx128_2)).trans hx128_2
 replace hx128_3 := (HB.out.cell (World.block_lt_of_cell? w _ hx128_3)).trans hx128_3
 replace hx128_4 := (HB.out.cell (World.block_lt_of_cell? w _ hx128_4)).trans hx128_4
 replace hx128_5 := (HB.out.cell (World.block_lt_of_cell? w _ hx128_5)).trans hx128_5
 replace hx128_6 := (HB.out.cell (World.block_lt_of_cell? w _ hx128_6)).trans hx128_6
 replace hx128_7 := (HB.out.cell (World.block_lt_of_cell? w _ hx128_7)).trans hx128_7
 have HR128_7 := Aside0.mk hi128_7
 have HC128_7 := Aside0.mk hl128_7
 clear hi128_7 hl128_7
 replace p128 := eq_true p128
 replace q128 := eq_true q128
 refine start_ (n := 14) (S := fun w' => w'.cell? ⟨g0_, 0, none⟩ = some (.int .i64 a0_0) ∧ w'.cell? ⟨g0_, 1, none⟩ = some (.slice (some ad126) l0_1.length c0_1) ∧ w'.cell? (ad126.add ((x24_1).toNat * 8)) = some (.int .i64 ((rd_T81 l0_1 x24_1).f0)) ∧ w'.cell? ⟨(ad126.add ((x24_1).toNat * 8)).block, (ad126.add ((x24_1).toNat * 8)).off + 1, none⟩ = some (.int .i64 ((rd_T81 l0_1 x24_1).f1)) ∧ w'.cell? ⟨(ad126.add ((x24_1).toNat * 8)).block, (ad126.add ((x24_1).toNat * 8)).off + 2, none⟩ = some (.int .i64 ((rd_T81 l0_1 x24_1).f2)) ∧ w'.cell? ⟨(ad126.add ((x24_1).toNat * 8)).block, (ad126.add ((x24_1).toNat * 8)).off + 3, none⟩ = some (.string ((rd_T81 l0_1 x24_1).f3)) ∧ w'.cell? ⟨(ad126.add ((x24_1).toNat * 8)).block, (ad126.add ((x24_1).toNat * 8)).off + 4, none⟩ = some (.int .i64 ((rd_T81 l0_1 x24_1).f4)) ∧ w'.cell? ⟨(ad126.add ((x24_1).toNat * 8)).block, (ad126.add ((x24_1).toNat * 8)).off + 5, none⟩ = some (.bool ((rd_T81 l0_1 x24_1).f5)) ∧ w'.cell? ⟨(ad126.add ((x24_1).toNat * 8)).block, (ad126.add ((x24_1).toNat * 8)).off + 6, none⟩ = some (.int .i64 ((rd_T81 l0_1 x24_1).f6)) ∧ w'.cell? ⟨(ad126.add ((x24_1).toNat * 8)).block, (ad126.add ((x24_1).toNat * 8)).off + 7, none⟩ = some (.slice A128_7 ((rd_T81 l0_1 x24_1).f7).length c128_7)) (ds := []) m0_ s2_ rfl rfl ⟨(blk_cell BK0.out 0).trans rfl, (blk_cell BK0.out 1).trans rfl, ((HB.out.cell (World.block_lt_of_cell? w _ hw128_0)).trans hw128_0), ((HB.out.cell (World.block_lt_of_cell? w _ hw128_1)).trans hw128_1), ((HB.out.cell (World.block_lt_of_cell? w _ hw128_2)).trans hw128_2), ((HB.out.cell (World.block_lt_of_cell? w _ hw128_3)).trans hw128_3), ((HB.out.cell (World.block_lt_of_cell? w _ hw128_4)).trans hw128_4), ((HB.out.cell (World.block_lt_of_cell? w _ hw128_5)).trans hw128_5), ((HB.out.cell (World.block_lt_of_cell? w _ hw128_6)).trans hw128_6), ((HB.out.cell (World.block_lt_of_cell? w _ hw128_7)).trans hw128_7)⟩ (fun hHeld => ?_); refine with_tabW spec_l03Is.tab7 spec_l03Is.bits7 (fun HT_ HW_ => ?_)
 generalize wr.drew = w31 at BK0 HB HR128_7 hx128_0 hx128_1 hx128_2 hx128_3 hx128_4 hx128_5 hx128_6 hx128_7 hHeld ⊢
 refine pu_ 0 33 m1_ (any_of HT_.out s2_) ?_
 refine one_ (i := 1) (N := some 34) m2_ rfl rfl (one_of HT_.out s2_) (by decide) (fun K hK => ?_)
 refine goes_ Try.func57 s2_ rfl #[.pointer (some (ad126.add ((x24_1).toNat * 8)))] (by rfl) rfl rfl s3_ ?_
 with_reducible refine (spec_l03Message_v0.calls k1 ad126 c0_1 l0_1 x24_1 true _ ?side1 ?side2 A10.out).mono ?_
 (case side1 => repeat (first | exact (Kd.C_below HR0_1.out HB.out) | (with_reducible refine Kd.C_alloc ?_ _) | (with_reducible refine Kd.C_drewN ?_ _) | (with_reducible refine Kd.C_drew ?_)))
 (case side2 => exact HC0_1.out)
 rintro e w32 ⟨rfl, hb⟩
 refine ⟨_, rfl, ?_⟩
 have n0_ := Aside0.mk (blk_below (g := g0_) (o := .cells #[.int .i64 a0_0, .slice (some ad126) l0_1.length c0_1] 38 (0, 0)) (b1_ BK0.out) hb)
 have n1_ := Aside0.mk (below_step (by repeat (first | (with_reducible first | exact HB.out | apply below_alloc | apply pw_below_drewN | apply below_drew1 | refine below_set ?_ GE0.out) | exact HB.out)) hb)
 clear BK0
 clear HB
 have BK0 := n0_
 have HB := n1_
 clear n0_ n1_
 (try clear hb)
 (try clear hb2)
 (try clear hk)
 (try clear hi)
 refine hK.out _ _ ⟨(blk_cell BK0.out 0).trans rfl, (blk_cell BK0.out 1).trans rfl, ((HB.out.cell (World.block_lt_of_cell? w _ hw128_0)).trans hw128_0), ((HB.out.cell (World.block_lt_of_cell? w _ hw128_1)).trans hw128_1), ((HB.out.cell (World.block_lt_of_cell? w _ hw128_2)).trans hw128_2), ((HB.out.cell (World.block_lt_of_cell? w _ hw128_3)).trans hw128_3), ((HB.out.cell (World.block_lt_of_cell? w _ hw128_4)).trans hw128_4), ((HB.out.cell (World.block_lt_of_cell? w _ hw128_5)).trans hw128_5), ((HB.out.cell (World.block_lt_of_cell? w _ hw128_6)).trans hw128_6), ((HB.out.cell (World.block_lt_of_cell? w _ hw128_7)).trans hw128_7)⟩ (fun hHeld => ?_)
 clear hK K
 refine norm_ (a' := ?_) ?_ ?_
 rotate_left
 {
 show Act.put _ (some 34) _ = _
 simp only [Act.put, List.setIfInBounds_toArray, List.set_cons_zero, List.set_cons_succ, i64_w, i32_w]
 rfl}
 refine pu_ 2 35 m3_ (any_of HT_.out s2_) ?_
 refine pu_ 3 36 m4_ (any_of HT_.out s2_) ?_
 refine pu_ 4 37 m5_ (any_of HT_.out s2_) ?_
 refine pu_ 5 38 m6_ (any_of HT_.out s2_) ?_
 refine pu_ 6 39 m7_ (any_of HT_.out s2_) ?_
 refine pu_ 8 41 m8_ (any_of HT_.out s2_) ?_
 refine pu_ 9 42 m9_ (any_of HT_.out s2_) ?_
 refine pu_ 10 43 m10_ (any_of HT_.out s2_) ?_
 refine take_ (i := 7) (N := some 40) (v := ?_) (a' := ?_) m11_ rfl rfl (take_ofW HT_.out HW_.out s2_) (fun _ _ _ h => h) (Or.inl ⟨by rfl, ?_⟩) hHeld ?_ ?_
 rotate_left
 {
 rintro w' ⟨s0, s1, s2, s3, s4, s5, s6, s7, s8, s9⟩
 go_simp
 with_reducible rfl}
 rotate_left
 · exact p1_
 refine take_ (i := 11) (N := some 44) (v := ?_) (a' := ?_) m12_ rfl rfl (take_ofW HT_.out HW_.out s2_) (fun _ _ _ h => h) (Or.inl ⟨by rfl, ?_⟩) hHeld ?_ ?_
 rotate_left
 {
 rintro w' ⟨s0, s1, s2, s3, s4, s5, s6, s7, s8, s9⟩
 go_simp
 with_reducible rfl}
 rotate_left
 · exact p1_
 refine pu_ 12 45 m13_ (any_of HT_.out s2_) ?_
 refine pu_ 13 46 m14_ (any_of HT_.out s2_) ?_
 refine done_ (done_of HT_.out s2_) ?_
 try go_wp2
 have n0_ := Aside0.mk (blk_drew BK0.out)
 have n1_ := Aside0.mk (below_drew1 HB.out)
 clear BK0
 clear HB
 have BK0 := n0_
 have HB := n1_
 clear n0_ n1_
 have p129 : 0 ≤ ((ji17) : Int) := of_decide_eq_true (by first | (with_reducible assumption) | assumption)
 have q129 : (ji17) < (l0_1.length : Int) := of_decide_eq_true (by first | (with_reducible assumption) | assumption)
 obtain ⟨ad129, A129_7, c129_7, e129, hx129_0, hx129_1, hx129_2, hx129_3, hx129_4, hx129_5, hx129_6, hx129_7, hl129_7, hi129_7⟩ := at_T81 HR0_1.out (ji17) p129 q129
 have hw129_7 := hx129_7
 have hw129_6 := hx129_6
 have hw129_5 := hx129_5
 have hw129_4 := hx129_4
 have hw129_3 := hx129_3
 have hw129_2 := hx129_2
 have hw129_1 := hx129_1
 have hw129_0 := hx129_0
 obtain rfl : ad126 = ad129 := (by injection e129)
 replace hx129_0 := (HB.out.cell (World.block_lt_of_cell? w _ hx129_0)).trans hx129_0
 replace hx129_1 := (HB.out.cell (World.block_lt_of_cell? w _ hx129_1)).trans hx129_1
 replace hx129_2 := (HB.out.cell (World.block_lt_of_cell? w _ hx129_2)).trans hx129_2
 replace hx129_3 := (HB.out.cell (World.block_lt_of_cell? w _ hx129_3)).trans hx129_3
 replace hx129_4 := (HB.out.cell (World.block_lt_of_cell? w _ hx129_4)).trans hx129_4
 replace hx129_5 := (HB.out.cell (World.block_lt_of_cell? w _ hx129_5)).trans hx129_5
 replace hx129_6 := (HB.out.cell (World.block_lt_of_cell? w _ hx129_6)).trans hx129_6
 replace hx129_7 := (HB.out.cell (World.block_lt_of_cell? w _ hx129_7)).trans hx129_7
 have HR129_7 := Aside0.mk hi129_7
 have HC129_7 := Aside0.mk hl129_7
 clear hi129_7 hl129_7
 replace p129 := eq_true p129
 replace q129 := eq_true q129
 have p130 : 0 ≤ (x24_1 : Int) := of_decide_eq_true (by first | (with_reducible assumption) | assumption)
 have q130 : x24_1 < (l0_1.length : Int) := of_decide_eq_true (by first | (with_reducible assumption) | assumption)
 obtain ⟨ad130, A130_7, c130_7, e130, hx130_0, hx130_1, hx130_2, hx130_3, hx130_4, hx130_5, hx130_6, hx130_7, hl130_7, hi130_7⟩ := at_T81 HR0_1.out x24_1 p130 q130
 have hw130_7 := hx130_7
 have hw130_6 := hx130_6
 have hw130_5 := hx130_5
 have hw130_4 := hx130_4
 have hw130_3 := hx130_3
 have hw130_2 := hx130_2
 have hw130_1 := hx130_1
 have hw130_0 := hx130_0
 obtain rfl : ad126 = ad130 := (by injection e130)
 replace hx130_0 := (HB.out.cell (World.block_lt_of_cell? w _ hx130_0)).trans hx130_0
 replace hx130_1 := (HB.out.cell (World.block_lt_of_cell? w _ hx130_1)).trans hx130_1
 replace hx130_2 := (HB.out.cell (World.block_lt_of_cell? w _ hx130_2)).trans hx130_2
 replace hx130_3 := (HB.out.cell (World.block_lt_of_cell? w _ hx130_3)).trans hx130_3
 replace hx130_4 := (HB.out.cell (World.block_lt_of_cell? w _ hx130_4)).trans hx130_4
 replace hx130_5 := (HB.out.cell (World.block_lt_of_cell? w _ hx130_5)).trans hx130_5
 replace hx130_6 := (HB.out.cell (World.block_lt_of_cell? w _ hx130_6)).trans hx130_6
 replace hx130_7 := (HB.out.cell (World.block_lt_of_cell? w _ hx130_7)).trans hx130_7
 have HR130_7 := Aside0.mk hi130_7
 have HC130_7 := Aside0.mk hl130_7
 clear hi130_7 hl130_7
 replace p130 := eq_true p130
 replace q130 := eq_true q130
 have p131 : 0 ≤ ((ji17) : Int) := of_decide_eq_true (by first | (with_reducible assumption) | assumption)
 have q131 : (ji17) < (l0_1.length : Int) := of_decide_eq_true (by first | (with_reducible assumption) | assumption)
 obtain ⟨ad131, A131_7, c131_7, e131, hx131_0, hx131_1, hx131_2, hx131_3, hx131_4, hx131_5, hx131_6, hx131_7, hl131_7, hi131_7⟩ := at_T81 HR0_1.out (ji17) p131 q131
 have hw131_7 := hx131_7
 have hw131_6 := hx131_6
 have hw131_5 := hx131_5
 have hw131_4 := hx131_4
 have hw131_3 := hx131_3
 have hw131_2 := hx131_2
 have hw131_1 := hx131_1
 have hw131_0 := hx131_0
 obtain rfl : ad126 = ad131 := (by injection e131)
 replace hx131_0 := (HB.out.cell (World.block_lt_of_cell? w _ hx131_0)).trans hx131_0
 replace hx131_1 := (HB.out.cell (World.block_lt_of_cell? w _ hx131_1)).trans hx131_1
 replace hx131_2 := (HB.out.cell (World.block_lt_of_cell? w _ hx131_2)).trans hx131_2
 replace hx131_3 := (HB.out.cell (World.block_lt_of_cell? w _ hx131_3)).trans hx131_3
 replace hx131_4 := (HB.out.cell (World.block_lt_of_cell? w _ hx131_4)).trans hx131_4
 replace hx131_5 := (HB.out.cell (World.block_lt_of_cell? w _ hx131_5)).trans hx131_5
 replace hx131_6 := (HB.out.cell (World.block_lt_of_cell? w _ hx131_6)).trans hx131_6
 replace hx131_7 := (HB.out.cell (World.block_lt_of_cell? w _ hx131_7)).trans hx131_7
 have HR131_7 := Aside0.mk hi131_7
 have HC131_7 := Aside0.mk hl131_7
 clear hi131_7 hl131_7
 replace p131 := eq_true p131
 replace q131 := eq_true q131
 have ea_ := Option.some.inj (hx129_7.symm.trans hx131_7)
 injection ea_ with ea_ en_ ec_
 subst ea_
 subst ec_
 clear en_
 refine start_ (n := 34) (S := fun w' => w'.cell? ⟨g0_, 0, none⟩ = some (.int .i64 a0_0) ∧ w'.cell? ⟨g0_, 1, none⟩ = some (.slice (some ad126) l0_1.length c0_1) ∧ w'.cell? (ad126.add (((ji17)).toNat * 8)) = some (.int .i64 ((rd_T81 l0_1 (ji17)).f0)) ∧ w'.cell? ⟨(ad126.add (((ji17)).toNat * 8)).block, (ad126.add (((ji17)).toNat * 8)).off + 1, none⟩ = some (.int .i64 ((rd_T81 l0_1 (ji17)).f1)) ∧ w'.cell? ⟨(ad126.add (((ji17)).toNat * 8)).block, (ad126.add (((ji17)).toNat * 8)).off + 2, none⟩ = some (.int .i64 ((rd_T81 l0_1 (ji17)).f2)) ∧ w'.cell? ⟨(ad126.add (((ji17)).toNat * 8)).block, (ad126.add (((ji17)).toNat * 8)).off + 3, none⟩ = some (.string ((rd_T81 l0_1 (ji17)).f3)) ∧ w'.cell? ⟨(ad126.add (((ji17)).toNat * 8)).block, (ad126.add (((ji17)).toNat * 8)).off + 4, none⟩ = some (.int .i64 ((rd_T81 l0_1 (ji17)).f4)) ∧ w'.cell? ⟨(ad126.add (((ji17)).toNat * 8)).block, (ad126.add (((ji17)).toNat * 8)).off + 5, none⟩ = some (.bool ((rd_T81 l0_1 (ji17)).f5)) ∧ w'.cell? ⟨(ad126.add (((ji17)).toNat * 8)).block, (ad126.add (((ji17)).toNat * 8)).off + 6, none⟩ = some (.int .i64 ((rd_T81 l0_1 (ji17)).f6)) ∧ w'.cell? ⟨(ad126.add (((ji17)).toNat * 8)).block, (ad126.add (((ji17)).toNat * 8)).off + 7, none⟩ = some (.slice A129_7 ((rd_T81 l0_1 (ji17)).f7).length c129_7) ∧ w'.cell? (ad126.add ((x24_1).toNat * 8)) = some (.int .i64 ((rd_T81 l0_1 x24_1).f0)) ∧ w'.cell? ⟨(ad126.add ((x24_1).toNat * 8)).block, (ad126.add ((x24_1).toNat * 8)).off + 1, none⟩ = some (.int .i64 ((rd_T81 l0_1 x24_1).f1)) ∧ w'.cell? ⟨(ad126.add ((x24_1).toNat * 8)).block, (ad126.add ((x24_1).toNat * 8)).off + 2, none⟩ = some (.int .i64 ((rd_T81 l0_1 x24_1).f2)) ∧ w'.cell? ⟨(ad126.add ((x24_1).toNat * 8)).block, (ad126.add ((x24_1).toNat * 8)).off + 3, none⟩ = some (.string ((rd_T81 l0_1 x24_1).f3)) ∧ w'.cell? ⟨(ad126.add ((x24_1).toNat * 8)).block, (ad126.add ((x24_1).toNat * 8)).off + 4, none⟩ = some (.int .i64 ((rd_T81 l0_1 x24_1).f4)) ∧ w'.cell? ⟨(ad126.add ((x24_1).toNat * 8)).block, (ad126.add ((x24_1).toNat * 8)).off + 5, none⟩ = some (.bool ((rd_T81 l0_1 x24_1).f5)) ∧ w'.cell? ⟨(ad126.add ((x24_1).toNat * 8)).block, (ad126.add ((x24_1).toNat * 8)).off + 6, none⟩ = some (.int .i64 ((rd_T81 l0_1 x24_1).f6)) ∧ w'.cell? ⟨(ad126.add ((x24_1).toNat * 8)).block, (ad126.add ((x24_1).toNat * 8)).off + 7, none⟩ = some (.slice A130_7 ((rd_T81 l0_1 x24_1).f7).length c130_7) ∧ w'.cell? (ad126.add (((ji17)).toNat * 8)) = some (.int .i64 ((rd_T81 l0_1 (ji17)).f0)) ∧ w'.cell? ⟨(ad126.add (((ji17)).toNat * 8)).block, (ad126.add (((ji17)).toNat * 8)).off + 1, none⟩ = some (.int .i64 ((rd_T81 l0_1 (ji17)).f1)) ∧ w'.cell? ⟨(ad126.add (((ji17)).toNat * 8)).block, (ad126.add (((ji17)).toNat * 8)).off + 2, none⟩ = some (.int .i64 ((rd_T81 l0_1 (ji17)).f2)) ∧ w'.cell? ⟨(ad126.add (((ji17)).toNat * 8)).block, (ad126.add (((ji17)).toNat * 8)).off + 3, none⟩ = some (.string ((rd_T81 l0_1 (ji17)).f3)) ∧ w'.cell? ⟨(ad126.add (((ji17)).toNat * 8)).block, (ad126.add (((ji17)).toNat * 8)).off + 4, none⟩ = some (.int .i64 ((rd_T81 l0_1 (ji17)).f4)) ∧ w'.cell? ⟨(ad126.add (((ji17)).toNat * 8)).block, (ad126.add (((ji17)).toNat * 8)).off + 5, none⟩ = some (.bool ((rd_T81 l0_1 (ji17)).f5)) ∧ w'.cell? ⟨(ad126.add (((ji17)).toNat * 8)).block, (ad126.add (((ji17)).toNat * 8)).off + 6, none⟩ = some (.int .i64 ((rd_T81 l0_1 (ji17)).f6)) ∧ w'.cell? ⟨(ad126.add (((ji17)).toNat * 8)).block, (ad126.add (((ji17)).toNat * 8)).off + 7, none⟩ = some (.slice A129_7 ((rd_T81 l0_1 (ji17)).f7).length c129_7)) (ds := []) m15_ s2_ rfl rfl ⟨(blk_cell BK0.out 0).trans rfl, (blk_cell BK0.out 1).trans rfl, ((HB.out.cell (World.block_lt_of_cell? w _ hw129_0)).trans hw129_0), ((HB.out.cell (World.block_lt_of_cell? w _ hw129_1)).trans hw129_1), ((HB.out.cell (World.block_lt_of_cell? w _ hw129_2)).trans hw129_2), ((HB.out.cell (World.block_lt_of_cell? w _ hw129_3)).trans hw129_3), ((HB.out.cell (World.block_lt_of_cell? w _ hw129_4)).trans hw129_4), ((HB.out.cell (World.block_lt_of_cell? w _ hw129_5)).trans hw129_5), ((HB.out.cell (World.block_lt_of_cell? w _ hw129_6)).trans hw129_6), ((HB.out.cell (World.block_lt_of_cell? w _ hw129_7)).trans hw129_7), ((HB.out.cell (World.block_lt_of_cell? w _ hw130_0)).trans hw130_0), ((HB.out.cell (World.block_lt_of_cell? w _ hw130_1)).trans hw130_1), ((HB.out.cell (World.block_lt_of_cell? w _ hw130_2)).trans hw130_2), ((HB.out.cell (World.block_lt_of_cell? w _ hw130_3)).trans hw130_3), ((HB.out.cell (World.block_lt_of_cell? w _ hw130_4)).trans hw130_4), ((HB.out.cell (World.block_lt_of_cell? w _ hw130_5)).trans hw130_5), ((HB.out.cell (World.block_lt_of_cell? w _ hw130_6)).trans hw130_6), ((HB.out.cell (World.block_lt_of_cell? w _ hw130_7)).trans hw130_7), ((HB.out.cell (World.block_lt_of_cell? w _ hw131_0)).trans hw131_0), ((HB.out.cell (World.block_lt_of_cell? w _ hw131_1)).trans hw131_1), ((HB.out.cell (World.block_lt_of_cell? w _ hw131_2)).trans hw131_2), ((HB.out.cell (World.block_lt_of_cell? w _ hw131_3)).trans hw131_3), ((HB.out.cell (World.block_lt_of_cell? w _ hw131_4)).trans hw131_4), ((HB.out.cell (World.block_lt_of_cell? w _ hw131_5)).trans hw131_5), ((HB.out.cell (World.block_lt_of_cell? w _ hw131_6)).trans hw131_6), ((HB.out.cell (World.block_lt_of_cell? w _ hw131_7)).trans hw131_7)⟩ (fun hHeld => ?_); refine with_tabW spec_l03Is.tab9 spec_l03Is.bits9 (fun HT_ HW_ => ?_)
 generalize w32.drew = w33 at BK0 HB HR129_7 HR130_7 HR131_7 hx129_0 hx129_1 hx129_2 hx129_3 hx129_4 hx129_5 hx129_6 hx129_7 hx130_0 hx130_1 hx130_2 hx130_3 hx130_4 hx130_5 hx130_6 hx130_7 hx131_0 hx131_1 hx131_2 hx131_3 hx131_4 hx131_5 hx131_6 hx131_7 hHeld ⊢
 refine pu_ 0 47 m16_ (any_of HT_.out s2_) ?_
 refine pu_ 1 48 m17_ (any_of HT_.out s2_) ?_
 refine pu_ 2 49 m18_ (any_of HT_.out s2_) ?_
 refine pu_ 3 50 m19_ (any_of HT_.out s2_) ?_
 refine pu_ 4 51 m20_ (any_of HT_.out s2_) ?_
 refine pu_ 5 52 m21_ (any_of HT_.out s2_) ?_
 refine pu_ 7 54 m22_ (any_of HT_.out s2_) ?_
 refine pu_ 8 55 m23_ (any_of HT_.out s2_) ?_
 refine pu_ 12 59 m24_ (any_of HT_.out s2_) ?_
 refine pu_ 13 60 m25_ (any_of HT_.out s2_) ?_
 refine pu_ 14 61 m26_ (any_of HT_.out s2_) ?_
 refine take_ (i := 6) (N := some 53) (v := ?_) (a' := ?_) m27_ rfl rfl (take_ofW HT_.out HW_.out s2_) (fun _ _ _ h => h) (Or.inl ⟨by rfl, ?_⟩) hHeld ?_ ?_
 rotate_left
 {
 rintro w' ⟨s0, s1, s2, s3, s4, s5, s6, s7, s8, s9, s10, s11, s12, s13, s14, s15, s16, s17, s18, s19, s20, s21, s22, s23, s24, s25⟩
 go_simp
 with_reducible rfl}
 rotate_left
 · exact p1_
 refine pu_ 9 56 m28_ (any_of HT_.out s2_) ?_
 refine pu_ 10 57 m29_ (any_of HT_.out s2_) ?_
 refine take_ (i := 11) (N := some 58) (v := ?_) (a' := ?_) m30_ rfl rfl (take_ofW HT_.out HW_.out s2_) (fun _ _ _ h => h) (Or.inl ⟨by rfl, ?_⟩) hHeld ?_ ?_
 rotate_left
 {
 rintro w' ⟨s0, s1, s2, s3, s4, s5, s6, s7, s8, s9, s10, s11, s12, s13, s14, s15, s16, s17, s18, s19, s20, s21, s22, s23, s24, s25⟩
 go_simp
 with_reducible rfl}
 rotate_left
 · exact p1_
 refine take_ (i := 15) (N := some 62) (v := ?_) (a' := ?_) m31_ rfl rfl (take_ofW HT_.out HW_.out s2_) (fun _ _ _ h => h) (Or.inl ⟨by rfl, ?_⟩) hHeld ?_ ?_
 rotate_left
 {
 rintro w' ⟨s0, s1, s2, s3, s4, s5, s6, s7, s8, s9, s10, s11, s12, s13, s14, s15, s16, s17, s18, s19, s20, s21, s22, s23, s24, s25⟩
 go_simp
 with_reducible rfl}
 rotate_left
 · exact p1_
 refine pu_ 16 63 m32_ (any_of HT_.out s2_) ?_
 refine pu_ 17 64 m33_ (any_of HT_.out s2_) ?_
 refine pu_ 18 65 m34_ (any_of HT_.out s2_) ?_
 refine pu_ 19 66 m35_ (any_of HT_.out s2_) ?_
 refine pu_ 20 67 m36_ (any_of HT_.out s2_) ?_
 refine pu_ 22 69 m50_ (any_of HT_.out s2_) ?_
 refine pu_ 23 70 m51_ (any_of HT_.out s2_) ?_
 refine pu_ 27 74 m52_ (any_of HT_.out s2_) ?_
 refine pu_ 28 75 m53_ (any_of HT_.out s2_) ?_
 refine pu_ 29 76 m54_ (any_of HT_.out s2_) ?_
 refine take_ (i := 21) (N := some 68) (v := ?_) (a' := ?_) m55_ rfl rfl (take_ofW HT_.out HW_.out s2_) (fun _ _ _ h => h) (Or.inl ⟨by rfl, ?_⟩) hHeld ?_ ?_
 rotate_left
 {
 rintro w' ⟨s0, s1, s2, s3, s4, s5, s6, s7, s8, s9, s10, s11, s12, s13, s14, s15, s16, s17, s18, s19, s20, s21, s22, s23, s24, s25⟩
 go_simp
 with_reducible rfl}
 rotate_left
 · exact p1_
 refine pu_ 24 71 m56_ (any_of HT_.out s2_) ?_
 refine pu_ 25 72 m57_ (any_of HT_.out s2_) ?_
 refine take_ (i := 26) (N := some 73) (v := ?_) (a' := ?_) m45_ rfl rfl (take_ofW HT_.out HW_.out s2_) (fun _ _ _ h => h) (Or.inl ⟨by rfl, ?_⟩) hHeld ?_ ?_
 rotate_left
 {
 rintro w' ⟨s0, s1, s2, s3, s4, s5, s6, s7, s8, s9, s10, s11, s12, s13, s14, s15, s16, s17, s18, s19, s20, s21, s22, s23, s24, s25⟩
 go_simp
 with_reducible rfl}
 rotate_left
 · exact p1_
 refine take_ (i := 30) (N := some 77) (v := ?_) (a' := ?_) m46_ rfl rfl (take_ofW HT_.out HW_.out s2_) (fun _ _ _ h => h) (Or.inl ⟨by rfl, ?_⟩) hHeld ?_ ?_
 rotate_left
 {
 rintro w' ⟨s0, s1, s2, s3, s4, s5, s6, s7, s8, s9, s10, s11, s12, s13, s14, s15, s16, s17, s18, s19, s20, s21, s22, s23, s24, s25⟩
 go_simp
 with_reducible rfl}
 rotate_left
 · exact p1_
 refine pu_ 31 78 m47_ (any_of HT_.out s2_) ?_
 refine pu_ 32 79 m48_ (any_of HT_.out s2_) ?_
 refine pu_ 33 80 m49_ (any_of HT_.out s2_) ?_
 refine done_ (done_of HT_.out s2_) ?_
 try go_wp2
 go_roundg k1
 case measure => have := HK1.out; omega
 case rel => exact ⟨(wrap64 (x24_1 + 1)), s1_, H', ⟨by have := HK1.out; omega⟩, ⟨b1_ BK0.out⟩, ⟨by repeat (first | (with_reducible first | exact HB.out | apply below_alloc | apply pw_below_drewN | apply below_drew1 | refine below_set ?_ GE0.out) | exact HB.out)⟩⟩}}}
 {
 rw [if_neg c19] at H
 exact absurd H (by simp)}}
 {
 rw [if_neg c18] at H
 exact absurd H (by simp)}}
 {
 rw [if_neg c16] at H
 have c16b0 : decide (0 < x24_1) = false := decide_eq_false c16
 clear c16
 have H' := Aside0.mk H
 clear H
 have hcz34_0 : wr.cell? ⟨g0_, 0, none⟩ = some (.int .i64 a0_0) := (blk_cell BK0.out 0).trans rfl
 have hcz34_1 : wr.cell? ⟨g0_, 1, none⟩ = some (.slice A0_1 l0_1.length c0_1) := (blk_cell BK0.out 1).trans rfl
 have hfz34_0 := blk_frozen BK0.out 0
 have hfz34_1 := blk_frozen BK0.out 1
 have p126 : 0 ≤ (x24_1 : Int) := of_decide_eq_true (by first | (with_reducible assumption) | assumption)
 have q126 : x24_1 < (l0_1.length : Int) := of_decide_eq_true (by first | (with_reducible assumption) | assumption)
 obtain ⟨ad126, A126_7, c126_7, e126, hx126_0, hx126_1, hx126_2, hx126_3, hx126_4, hx126_5, hx126_6, hx126_7, hl126_7, hi126_7⟩ := at_T81 HR0_1.out x24_1 p126 q126
 cases e126
 replace hx126_0 := (HB.out.cell (World.block_lt_of_cell? w _ hx126_0)).trans hx126_0
 replace hx126_1 := (HB.out.cell (World.block_lt_of_cell? w _ hx126_1)).trans hx126_1
 replace hx126_2 := (HB.out.cell (World.block_lt_of_cell? w _ hx126_2)).trans hx126_2
 replace hx126_3 := (HB.out.cell (World.block_lt_of_cell? w _ hx126_3)).trans hx126_3
 replace hx126_4 := (HB.out.cell (World.block_lt_of_cell? w _ hx126_4)).trans hx126_4
 replace hx126_5 := (HB.out.cell (World.block_lt_of_cell? w _ hx126_5)).trans hx126_5
 replace hx126_6 := (HB.out.cell (World.block_lt_of_cell? w _ hx126_6)).trans hx126_6
 replace hx126_7 := (HB.out.cell (World.block_lt_of_cell? w _ hx126_7)).trans hx126_7
 have HR126_7 := Aside0.mk hi126_7
 have HC126_7 := Aside0.mk hl126_7
 clear hi126_7 hl126_7
 replace p126 := eq_true p126
 replace q126 := eq_true q126
 try go_wp2
 have n0_ := Aside0.mk (blk_drew BK0.out)
 have n1_ := Aside0.mk (below_drew1 HB.out)
 clear BK0
 clear HB
 have BK0 := n0_
 have HB := n1_
 clear n0_ n1_
 have p128 : 0 ≤ (x24_1 : Int) := of_decide_eq_true (by first | (with_reducible assumption) | assumption)
 have q128 : x24_1 < (l0_1.length : Int) := of_decide_eq_true (by first | (with_reducible assumption) | assumption)
 obtain ⟨ad128, A128_7, c128_7, e128, hx128_0, hx128_1, hx128_2, hx128_3, hx128_4, hx128_5, hx128_6, hx128_7, hl128_7, hi128_7⟩ := at_T81 HR0_1.out x24_1 p128 q128
 have hw128_7 := hx128_7
 have hw128_6 := hx128_6
 have hw128_5 := hx128_5
 have hw128_4 := hx128_4
 have hw128_3 := hx128_3
 have hw128_2 := hx128_2
 have hw128_1 := hx128_1
 have hw128_0 := hx128_0
 obtain rfl : ad126 = ad128 := (by injection e128)
 replace hx128_0 := (HB.out.cell (World.block_lt_of_cell? w _ hx128_0)).trans hx128_0
 replace hx128_1 := (HB.out.cell (World.block_lt_of_cell? w _ hx128_1)).trans hx128_1
 replace hx128_2 := (HB.out.cell (World.block_lt_of_cell? w _ hx128_2)).trans hx128_2
 replace hx128_3 := (HB.out.cell (World.block_lt_of_cell? w _ hx128_3)).trans hx128_3
 replace hx128_4 := (HB.out.cell (World.block_lt_of_cell? w _ hx128_4)).trans hx128_4
 replace hx128_5 := (HB.out.cell (World.block_lt_of_cell? w _ hx128_5)).trans hx128_5
 replace hx128_6 := (HB.out.cell (World.block_lt_of_cell? w _ hx128_6)).trans hx128_6
 replace hx128_7 := (HB.out.cell (World.block_lt_of_cell? w _ hx128_7)).trans hx128_7
 have HR128_7 := Aside0.mk hi128_7
 have HC128_7 := Aside0.mk hl128_7
 clear hi128_7 hl128_7
 replace p128 := eq_true p128
 replace q128 := eq_true q128
 refine start_ (n := 14) (S := fun w' => w'.cell? ⟨g0_, 0, none⟩ = some (.int .i64 a0_0) ∧ w'.cell? ⟨g0_, 1, none⟩ = some (.slice (some ad126) l0_1.length c0_1) ∧ w'.cell? (ad126.add ((x24_1).toNat * 8)) = some (.int .i64 ((rd_T81 l0_1 x24_1).f0)) ∧ w'.cell? ⟨(ad126.add ((x24_1).toNat * 8)).block, (ad126.add ((x24_1).toNat * 8)).off + 1, none⟩ = some (.int .i64 ((rd_T81 l0_1 x24_1).f1)) ∧ w'.cell? ⟨(ad126.add ((x24_1).toNat * 8)).block, (ad126.add ((x24_1).toNat * 8)).off + 2, none⟩ = some (.int .i64 ((rd_T81 l0_1 x24_1).f2)) ∧ w'.cell? ⟨(ad126.add ((x24_1).toNat * 8)).block, (ad126.add ((x24_1).toNat * 8)).off + 3, none⟩ = some (.string ((rd_T81 l0_1 x24_1).f3)) ∧ w'.cell? ⟨(ad126.add ((x24_1).toNat * 8)).block, (ad126.add ((x24_1).toNat * 8)).off + 4, none⟩ = some (.int .i64 ((rd_T81 l0_1 x24_1).f4)) ∧ w'.cell? ⟨(ad126.add ((x24_1).toNat * 8)).block, (ad126.add ((x24_1).toNat * 8)).off + 5, none⟩ = some (.bool ((rd_T81 l0_1 x24_1).f5)) ∧ w'.cell? ⟨(ad126.add ((x24_1).toNat * 8)).block, (ad126.add ((x24_1).toNat * 8)).off + 6, none⟩ = some (.int .i64 ((rd_T81 l0_1 x24_1).f6)) ∧ w'.cell? ⟨(ad126.add ((x24_1).toNat * 8)).block, (ad126.add ((x24_1).toNat * 8)).off + 7, none⟩ = some (.slice A128_7 ((rd_T81 l0_1 x24_1).f7).length c128_7)) (ds := []) m0_ s2_ rfl rfl ⟨(blk_cell BK0.out 0).trans rfl, (blk_cell BK0.out 1).trans rfl, ((HB.out.cell (World.block_lt_of_cell? w _ hw128_0)).trans hw128_0), ((HB.out.cell (World.block_lt_of_cell? w _ hw128_1)).trans hw128_1), ((HB.out.cell (World.block_lt_of_cell? w _ hw128_2)).trans hw128_2), ((HB.out.cell (World.block_lt_of_cell? w _ hw128_3)).trans hw128_3), ((HB.out.cell (World.block_lt_of_cell? w _ hw128_4)).trans hw128_4), ((HB.out.cell (World.block_lt_of_cell? w _ hw128_5)).trans hw128_5), ((HB.out.cell (World.block_lt_of_cell? w _ hw128_6)).trans hw128_6), ((HB.out.cell (World.block_lt_of_cell? w _ hw128_7)).trans hw128_7)⟩ (fun hHeld => ?_); refine with_tabW spec_l03Is.tab7 spec_l03Is.bits7 (fun HT_ HW_ => ?_)
 generalize wr.drew = w35 at BK0 HB HR128_7 hx128_0 hx128_1 hx128_2 hx128_3 hx128_4 hx128_5 hx128_6 hx128_7 hHeld ⊢
 refine pu_ 0 33 m1_ (any_of HT_.out s2_) ?_
 refine one_ (i := 1) (N := some 34) m2_ rfl rfl (one_of HT_.out s2_) (by decide) (fun K hK => ?_)
 refine goes_ Try.func57 s2_ rfl #[.pointer (some (ad126.add ((x24_1).toNat * 8)))] (by rfl) rfl rfl s3_ ?_
 with_reducible refine (spec_l03Message_v0.calls k1 ad126 c0_1 l0_1 x24_1 true _ ?side1 ?side2 A10.out).mono ?_
 (case side1 => repeat (first | exact (Kd.C_below HR0_1.out HB.out) | (with_reducible refine Kd.C_alloc ?_ _) | (with_reducible refine Kd.C_drewN ?_ _) | (with_reducible refine Kd.C_drew ?_)))
 (case side2 => exact HC0_1.out)
 rintro e w36 ⟨rfl, hb⟩
 refine ⟨_, rfl, ?_⟩
 have n0_ := Aside0.mk (blk_below (g := g0_) (o := .cells #[.int .i64 a0_0, .slice (some ad126) l0_1.length c0_1] 38 (0, 0)) (b1_ BK0.out) hb)
 have n1_ := Aside0.mk (below_step (by repeat (first | (with_reducible first | exact HB.out | apply below_alloc | apply pw_below_drewN | apply below_drew1 | refine below_set ?_ GE0.out) | exact HB.out)) hb)
 clear BK0
 clear HB
 have BK0 := n0_
 have HB := n1_
 clear n0_ n1_
 (try clear hb)
 (try clear hb2)
 (try clear hk)
 (try clear hi)
 refine hK.out _ _ ⟨(blk_cell BK0.out 0).trans rfl, (blk_cell BK0.out 1).trans rfl, ((HB.out.cell (World.block_lt_of_cell? w _ hw128_0)).trans hw128_0), ((HB.out.cell (World.block_lt_of_cell? w _ hw128_1)).trans hw128_1), ((HB.out.cell (World.block_lt_of_cell? w _ hw128_2)).trans hw128_2), ((HB.out.cell (World.block_lt_of_cell? w _ hw128_3)).trans hw128_3), ((HB.out.cell (World.block_lt_of_cell? w _ hw128_4)).trans hw128_4), ((HB.out.cell (World.block_lt_of_cell? w _ hw128_5)).trans hw128_5), ((HB.out.cell (World.block_lt_of_cell? w _ hw128_6)).trans hw128_6), ((HB.out.cell (World.block_lt_of_cell? w _ hw128_7)).trans hw128_7)⟩ (fun hHeld => ?_)
 clear hK K
 refine norm_ (a' := ?_) ?_ ?_
 rotate_left
 {
 show Act.put _ (some 34) _ = _
 simp only [Act.put, List.setIfInBounds_toArray, List.set_cons_zero, List.set_cons_succ, i64_w, i32_w]
 rfl}
 refine pu_ 2 35 m3_ (any_of HT_.out s2_) ?_
 refine pu_ 3 36 m4_ (any_of HT_.out s2_) ?_
 refine pu_ 4 37 m5_ (any_of HT_.out s2_) ?_
 refine pu_ 5 38 m6_ (any_of HT_.out s2_) ?_
 refine pu_ 6 39 m7_ (any_of HT_.out s2_) ?_
 refine pu_ 8 41 m8_ (any_of HT_.out s2_) ?_
 refine pu_ 9 42 m9_ (any_of HT_.out s2_) ?_
 refine pu_ 10 43 m10_ (any_of HT_.out s2_) ?_
 refine take_ (i := 7) (N := some 40) (v := ?_) (a' := ?_) m11_ rfl rfl (take_ofW HT_.out HW_.out s2_) (fun _ _ _ h => h) (Or.inl ⟨by rfl, ?_⟩) hHeld ?_ ?_
 rotate_left
 {
 rintro w' ⟨s0, s1, s2, s3, s4, s5, s6, s7, s8, s9⟩
 go_simp
 with_reducible rfl}
 rotate_left
 · exact p1_
 refine take_ (i := 11) (N := some 44) (v := ?_) (a' := ?_) m12_ rfl rfl (take_ofW HT_.out HW_.out s2_) (fun _ _ _ h => h) (Or.inl ⟨by rfl, ?_⟩) hHeld ?_ ?_
 rotate_left
 {
 rintro w' ⟨s0, s1, s2, s3, s4, s5, s6, s7, s8, s9⟩
 go_simp
 with_reducible rfl}
 rotate_left
 · exact p1_
 refine pu_ 12 45 m13_ (any_of HT_.out s2_) ?_
 refine pu_ 13 46 m14_ (any_of HT_.out s2_) ?_
 refine done_ (done_of HT_.out s2_) ?_
 try go_wp2
 have n0_ := Aside0.mk (blk_drew BK0.out)
 have n1_ := Aside0.mk (below_drew1 HB.out)
 clear BK0
 clear HB
 have BK0 := n0_
 have HB := n1_
 clear n0_ n1_
 refine start_ (n := 34) (S := fun w' => True) (ds := []) m15_ s2_ rfl rfl trivial (fun hHeld => ?_); refine with_tabW spec_l03Is.tab9 spec_l03Is.bits9 (fun HT_ HW_ => ?_)
 generalize w36.drew = w37 at BK0 HB hHeld ⊢
 refine pu_ 0 47 m16_ (any_of HT_.out s2_) ?_
 refine pu_ 1 48 m17_ (any_of HT_.out s2_) ?_
 refine pu_ 2 49 m18_ (any_of HT_.out s2_) ?_
 refine pn_ 3 50 m19_ (any_of HT_.out s2_) ?_
 refine pn_ 4 51 m20_ (any_of HT_.out s2_) ?_
 refine pn_ 5 52 m21_ (any_of HT_.out s2_) ?_
 refine pn_ 6 53 #[T,T,T,T,T,T,T,F,F,F,F,F,F,F,F,F,F,F,F,F,F,F,F,F,F,F,F,F,F,F,F,F,F,F] (any_of HT_.out s2_) ?_
 refine pn_ 7 54 #[T,T,T,T,T,T,T,T,F,F,F,F,F,F,F,F,F,F,F,F,F,F,F,F,F,F,F,F,F,F,F,F,F,F] (any_of HT_.out s2_) ?_
 refine pn_ 8 55 #[T,T,T,T,T,T,T,T,T,F,F,F,F,F,F,F,F,F,F,F,F,F,F,F,F,F,F,F,F,F,F,F,F,F] (any_of HT_.out s2_) ?_
 refine pn_ 9 56 #[T,T,T,T,T,T,T,T,T,T,F,F,F,F,F,F,F,F,F,F,F,F,F,F,F,F,F,F,F,F,F,F,F,F] (any_of HT_.out s2_) ?_
 refine pn_ 10 57 #[T,T,T,T,T,T,T,T,T,T,T,F,F,F,F,F,F,F,F,F,F,F,F,F,F,F,F,F,F,F,F,F,F,F] (any_of HT_.out s2_) ?_
 refine pn_ 11 58 #[T,T,T,T,T,T,T,T,T,T,T,T,F,F,F,F,F,F,F,F,F,F,F,F,F,F,F,F,F,F,F,F,F,F] (any_of HT_.out s2_) ?_
 refine pn_ 12 59 #[T,T,T,T,T,T,T,T,T,T,T,T,T,F,F,F,F,F,F,F,F,F,F,F,F,F,F,F,F,F,F,F,F,F] (any_of HT_.out s2_) ?_
 refine pn_ 13 60 #[T,T,T,T,T,T,T,T,T,T,T,T,T,T,F,F,F,F,F,F,F,F,F,F,F,F,F,F,F,F,F,F,F,F] (any_of HT_.out s2_) ?_
 refine pn_ 14 61 m30_ (any_of HT_.out s2_) ?_
 refine pn_ 15 62 m31_ (any_of HT_.out s2_) ?_
 refine pn_ 16 63 m32_ (any_of HT_.out s2_) ?_
 refine pn_ 17 64 m33_ (any_of HT_.out s2_) ?_
 refine pn_ 18 65 m34_ (any_of HT_.out s2_) ?_
 refine pn_ 19 66 m35_ (any_of HT_.out s2_) ?_
 refine pn_ 20 67 m36_ (any_of HT_.out s2_) ?_
 refine pn_ 21 68 m37_ (any_of HT_.out s2_) ?_
 refine pn_ 22 69 m38_ (any_of HT_.out s2_) ?_
 refine pn_ 23 70 m39_ (any_of HT_.out s2_) ?_
 refine pn_ 24 71 m40_ (any_of HT_.out s2_) ?_
 refine pn_ 25 72 m41_ (any_of HT_.out s2_) ?_
 refine pn_ 26 73 m42_ (any_of HT_.out s2_) ?_
 refine pn_ 27 74 m43_ (any_of HT_.out s2_) ?_
 refine pn_ 28 75 m44_ (any_of HT_.out s2_) ?_
 refine pn_ 29 76 m45_ (any_of HT_.out s2_) ?_
 refine pn_ 30 77 m46_ (any_of HT_.out s2_) ?_
 refine pn_ 31 78 m47_ (any_of HT_.out s2_) ?_
 refine pn_ 32 79 m48_ (any_of HT_.out s2_) ?_
 refine pu_ 33 80 m49_ (any_of HT_.out s2_) ?_
 refine done_ (done_of HT_.out s2_) ?_
 try go_wp2
 go_roundg k1
 case measure => have := HK1.out; omega
 case rel => exact ⟨(wrap64 (x24_1 + 1)), s1_, H', ⟨by have := HK1.out; omega⟩, ⟨b1_ BK0.out⟩, ⟨by repeat (first | (with_reducible first | exact HB.out | apply below_alloc | apply pw_below_drewN | apply below_drew1 | refine below_set ?_ GE0.out) | exact HB.out)⟩⟩}}}
 {
 replace c11 := Bool.eq_false_iff.mpr c11
 subst c11
 have H1 : (some false) = some r := by rw [if_neg (show ¬ (false = true) by decide)] at H; exact H
 clear H
 have H := H1
 clear H1
 obtain rfl := Option.some.inj H
 have hcz38_0 : wr.cell? ⟨g0_, 0, none⟩ = some (.int .i64 a0_0) := (blk_cell BK0.out 0).trans rfl
 have hcz38_1 : wr.cell? ⟨g0_, 1, none⟩ = some (.slice A0_1 l0_1.length c0_1) := (blk_cell BK0.out 1).trans rfl
 have hfz38_0 := blk_frozen BK0.out 0
 have hfz38_1 := blk_frozen BK0.out 1
 have p126 : 0 ≤ (x24_1 : Int) := of_decide_eq_true (by first | (with_reducible assumption) | assumption)
 have q126 : x24_1 < (l0_1.length : Int) := of_decide_eq_true (by first | (with_reducible assumption) | assumption)
 obtain ⟨ad126, A126_7, c126_7, e126, hx126_0, hx126_1, hx126_2, hx126_3, hx126_4, hx126_5, hx126_6, hx126_7, hl126_7, hi126_7⟩ := at_T81 HR0_1.out x24_1 p126 q126
 cases e126
 replace hx126_0 := (HB.out.cell (World.block_lt_of_cell? w _ hx126_0)).trans hx126_0
 replace hx126_1 := (HB.out.cell (World.block_lt_of_cell? w _ hx126_1)).trans hx126_1
 replace hx126_2 := (HB.out.cell (World.block_lt_of_cell? w _ hx126_2)).trans hx126_2
 replace hx126_3 := (HB.out.cell (World.block_lt_of_cell? w _ hx126_3)).trans hx126_3
 replace hx126_4 := (HB.out.cell (World.block_lt_of_cell? w _ hx126_4)).trans hx126_4
 replace hx126_5 := (HB.out.cell (World.block_lt_of_cell? w _ hx126_5)).trans hx126_5
 replace hx126_6 := (HB.out.cell (World.block_lt_of_cell? w _ hx126_6)).trans hx126_6
 replace hx126_7 := (HB.out.cell (World.block_lt_of_cell? w _ hx126_7)).trans hx126_7
 have HR126_7 := Aside0.mk hi126_7
 have HC126_7 := Aside0.mk hl126_7
 clear hi126_7 hl126_7
 replace p126 := eq_true p126
 replace q126 := eq_true q126
 try go_wp2
 have n0_ := Aside0.mk (blk_drew BK0.out)
 have n1_ := Aside0.mk (below_drew1 HB.out)
 clear BK0
 clear HB
 have BK0 := n0_
 have HB := n1_
 clear n0_ n1_
 refine start_ (n := 14) (S := fun w' => True) (ds := []) m0_ s2_ rfl rfl trivial (fun hHeld => ?_); refine with_tabW spec_l03Is.tab7 spec_l03Is.bits7 (fun HT_ HW_ => ?_)
 generalize wr.drew = w39 at BK0 HB hHeld ⊢
 refine pu_ 0 33 m1_ (any_of HT_.out s2_) ?_
 refine one_ (i := 1) (N := some 34) m2_ rfl rfl (one_of HT_.out s2_) (by decide) (fun K hK => ?_)
 refine goes_ Try.func57 s2_ rfl #[.pointer (some (ad126.add ((x24_1).toNat * 8)))] (by rfl) rfl rfl s3_ ?_
 with_reducible refine (spec_l03Message_v0.calls k1 ad126 c0_1 l0_1 x24_1 false _ ?side1 ?side2 A10.out).mono ?_
 (case side1 => repeat (first | exact (Kd.C_below HR0_1.out HB.out) | (with_reducible refine Kd.C_alloc ?_ _) | (with_reducible refine Kd.C_drewN ?_ _) | (with_reducible refine Kd.C_drew ?_)))
 (case side2 => exact HC0_1.out)
 rintro e w40 ⟨rfl, hb⟩
 refine ⟨_, rfl, ?_⟩
 have n0_ := Aside0.mk (blk_below (g := g0_) (o := .cells #[.int .i64 a0_0, .slice (some ad126) l0_1.length c0_1] 38 (0, 0)) (b1_ BK0.out) hb)
 have n1_ := Aside0.mk (below_step (by repeat (first | (with_reducible first | exact HB.out | apply below_alloc | apply pw_below_drewN | apply below_drew1 | refine below_set ?_ GE0.out) | exact HB.out)) hb)
 clear BK0
 clear HB
 have BK0 := n0_
 have HB := n1_
 clear n0_ n1_
 (try clear hb)
 (try clear hb2)
 (try clear hk)
 (try clear hi)
 refine hK.out _ _ trivial (fun hHeld => ?_)
 clear hK K
 refine norm_ (a' := ?_) ?_ ?_
 rotate_left
 {
 show Act.put _ (some 34) _ = _
 simp only [Act.put, List.setIfInBounds_toArray, List.set_cons_zero, List.set_cons_succ, i64_w, i32_w]
 rfl}
 refine pu_ 2 35 m3_ (any_of HT_.out s2_) ?_
 refine pu_ 3 36 m4_ (any_of HT_.out s2_) ?_
 refine pn_ 4 37 m5_ (any_of HT_.out s2_) ?_
 refine pn_ 5 38 m6_ (any_of HT_.out s2_) ?_
 refine pn_ 6 39 m7_ (any_of HT_.out s2_) ?_
 refine pn_ 7 40 #[T,T,T,T,T,T,T,T,F,F,F,F,F,F] (any_of HT_.out s2_) ?_
 refine pn_ 8 41 #[T,T,T,T,T,T,T,T,T,F,F,F,F,F] (any_of HT_.out s2_) ?_
 refine pn_ 9 42 #[T,T,T,T,T,T,T,T,T,T,F,F,F,F] (any_of HT_.out s2_) ?_
 refine pn_ 10 43 m11_ (any_of HT_.out s2_) ?_
 refine pn_ 11 44 m12_ (any_of HT_.out s2_) ?_
 refine pn_ 12 45 m13_ (any_of HT_.out s2_) ?_
 refine pu_ 13 46 m14_ (any_of HT_.out s2_) ?_
 refine done_ (done_of HT_.out s2_) ?_
 try go_wp2
 go_ret
 exact ⟨by first | rfl | (simp [errW_none, errW_some] <;> rfl) | (simp [*, errW_none, errW_some] <;> rfl), by repeat (first | (with_reducible first | exact HB.out | apply below_alloc | apply pw_below_drewN | apply below_drew1 | refine below_set ?_ GE0.out) | exact HB.out)⟩}}
 {
 rw [if_neg c9] at H
 exact absurd H (by simp)}}
 {
 rw [if_neg c8] at H
 exact absurd H (by simp)}}
 {
 rw [if_neg c7] at H
 have c7b0 : decide (x24_1 < (l0_1.length : Int)) = false := decide_eq_false c7
 clear c7
 obtain rfl := Option.some.inj H
 go_wp2
 go_ret
 exact ⟨by first | rfl | (simp [errW_none, errW_some] <;> rfl) | (simp [*, errW_none, errW_some] <;> rfl), by repeat (first | (with_reducible first | exact HB.out | apply below_alloc | apply pw_below_drewN | apply below_drew1 | refine below_set ?_ GE0.out) | exact HB.out)⟩}}}}
 {
 replace c5 := Bool.eq_false_iff.mpr c5
 subst c5
 have H1 : (some false) = some r := by rw [if_neg (show ¬ (false = true) by decide)] at H; exact H
 clear H
 have H := H1
 clear H1
 obtain rfl := Option.some.inj H
 have hcz41_0 : w.cell? ⟨g0_, 0, none⟩ = some (.int .i64 a0_0) := (blk_cell BK0.out 0).trans rfl
 have hcz41_1 : w.cell? ⟨g0_, 1, none⟩ = some (.slice A0_1 l0_1.length c0_1) := (blk_cell BK0.out 1).trans rfl
 have hfz41_0 := blk_frozen BK0.out 0
 have hfz41_1 := blk_frozen BK0.out 1
 go_enter Try.func36, Try.ntmps36
 go_wp2_with (first | (go_at_call 52; (with_reducible refine (spec_l00In.calls a0_0 1 1000000000 false _ A4.out).mono ?_); rintro e w' ⟨rfl, ⟨nd, rfl⟩⟩))
 go_ret
 exact ⟨by first | rfl | (simp [errW_none, errW_some] <;> rfl) | (simp [*, errW_none, errW_some] <;> rfl), by repeat (first | (with_reducible first | exact HB.out | apply below_alloc | apply pw_below_drewN | apply below_drew1 | refine below_set ?_ GE0.out) | exact HB.out)⟩}}

end Go.Proofs.Ytgmbgpjebpgpkaa.QFnExactLogCost
