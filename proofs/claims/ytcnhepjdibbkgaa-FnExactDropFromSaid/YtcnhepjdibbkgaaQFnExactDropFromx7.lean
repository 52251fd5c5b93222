-- written by a program of this session, on the lines of the kit's print
import Derived.Test.YtcnhepjdibbkgaaQFnExactDropFromx0
import Derived.Test.YtcnhepjdibbkgaaQFnExactDropFromx5
import Derived.Test.YtcnhepjdibbkgaaQFnExactDropFromx6
namespace Go.Proofs.Ytcnhepjdibbkgaa.QFnExactDropFrom
open Go.RowKit Go.Proofs.YtcnhepjdibbkgaaW.PrintWords Go.Proofs.YtcnhepjdibbkgaaW.PrintLast Go.Proofs.YtcnhepjdibbkgaaW.PrintMore
attribute [local go_sem] max2_int min2_int max_two min_two max_three min_three max_four min_four   -- for this text's walks alone
set_option linter.unusedVariables false
set_option linter.unusedSimpArgs false

/-! ### impl_ValidIndex: function 17 -/
abbrev impl_ValidIndex.T : Bool := true
abbrev impl_ValidIndex.F : Bool := false
abbrev impl_ValidIndex.m0_ : Array Bool := #[F,F,F,F,F,F,F,F,F,F,F,F,F,F,F,F,F,F,F,F,F,F,F,F,F,F,F,F,F,F,F,F,F,F,F,F,F,F]
abbrev impl_ValidIndex.m1_ : Array Bool := #[T,F,F,F,F,F,F,F,F,F,F,F,F,F,F,F,F,F,F,F,F,F,F,F,F,F,F,F,F,F,F,F,F,F,F,F,F,F]
abbrev impl_ValidIndex.m2_ : Array Bool := #[T,T,F,F,F,F,F,F,F,F,F,F,F,F,F,F,F,F,F,F,F,F,F,F,F,F,F,F,F,F,F,F,F,F,F,F,F,F]
abbrev impl_ValidIndex.m3_ : Array Bool := #[T,T,T,F,F,F,F,F,F,F,F,F,F,F,F,F,F,F,F,F,F,F,F,F,F,F,F,F,F,F,F,F,F,F,F,F,F,F]
abbrev impl_ValidIndex.m4_ : Array Bool := #[T,T,T,T,F,F,F,F,F,F,F,F,F,F,F,F,F,F,F,F,F,F,F,F,F,F,F,F,F,F,F,F,F,F,F,F,F,F]
abbrev impl_ValidIndex.m5_ : Array Bool := #[T,T,T,T,T,F,F,F,F,F,F,F,F,F,F,F,F,F,F,F,F,F,F,F,F,F,F,F,F,F,F,F,F,F,F,F,F,F]
abbrev impl_ValidIndex.m6_ : Array Bool := #[T,T,T,T,T,T,F,F,F,F,F,F,F,F,F,F,F,F,F,F,F,F,F,F,F,F,F,F,F,F,F,F,F,F,F,F,F,F]
abbrev impl_ValidIndex.m7_ : Array Bool := #[T,T,T,T,T,T,T,F,F,F,F,F,F,F,F,F,F,F,F,F,F,F,F,F,F,F,F,F,F,F,F,F,F,F,F,F,F,F]
abbrev impl_ValidIndex.m8_ : Array Bool := #[T,T,T,T,T,T,T,T,F,F,F,F,F,F,F,F,F,F,F,F,F,F,F,F,F,F,F,F,F,F,F,F,F,F,F,F,F,F]
abbrev impl_ValidIndex.m9_ : Array Bool := #[T,T,T,T,T,T,T,T,T,F,F,F,F,F,F,F,F,F,F,F,F,F,F,F,F,F,F,F,F,F,F,F,F,F,F,F,F,F]
abbrev impl_ValidIndex.m10_ : Array Bool := #[T,T,T,T,T,T,T,T,T,T,F,F,F,F,F,F,F,F,F,F,F,F,F,F,F,F,F,F,F,F,F,F,F,F,F,F,F,F]
abbrev impl_ValidIndex.m11_ : Array Bool := #[T,T,T,T,T,T,T,T,T,T,T,F,F,F,F,F,F,F,F,F,F,F,F,F,F,F,F,F,F,F,F,F,F,F,F,F,F,F]
abbrev impl_ValidIndex.m12_ : Array Bool := #[T,T,T,T,T,T,T,T,T,T,T,T,F,F,F,F,F,F,F,F,F,F,F,F,F,F,F,F,F,F,F,F,F,F,F,F,F,F]
abbrev impl_ValidIndex.m13_ : Array Bool := #[T,T,T,T,T,T,T,T,T,T,T,T,T,F,F,F,F,F,F,F,F,F,F,F,F,F,F,F,F,F,F,F,F,F,F,F,F,F]
abbrev impl_ValidIndex.m14_ : Array Bool := #[T,T,T,T,T,T,T,T,T,T,T,T,T,T,F,F,F,F,F,F,F,F,F,F,F,F,F,F,F,F,F,F,F,F,F,F,F,F]
abbrev impl_ValidIndex.m15_ : Array Bool := #[T,T,T,T,T,T,T,T,T,T,T,T,T,T,T,F,F,F,F,F,F,F,F,F,F,F,F,F,F,F,F,F,F,F,F,F,F,F]
abbrev impl_ValidIndex.m16_ : Array Bool := #[T,T,T,T,T,T,T,T,T,T,T,T,T,T,T,T,F,F,F,F,F,F,F,F,F,F,F,F,F,F,F,F,F,F,F,F,F,F]
abbrev impl_ValidIndex.m17_ : Array Bool := #[T,T,T,T,T,T,T,T,T,T,T,T,T,T,T,T,T,F,F,F,F,F,F,F,F,F,F,F,F,F,F,F,F,F,F,F,F,F]
abbrev impl_ValidIndex.m18_ : Array Bool := #[T,T,T,T,T,T,T,T,T,T,T,T,T,T,T,T,T,T,F,F,F,F,F,F,F,F,F,F,F,F,F,F,F,F,F,F,F,F]
abbrev impl_ValidIndex.m19_ : Array Bool := #[T,T,T,T,T,T,T,T,T,T,T,T,T,T,T,T,T,T,T,F,F,F,F,F,F,F,F,F,F,F,F,F,F,F,F,F,F,F]
abbrev impl_ValidIndex.m20_ : Array Bool := #[T,T,T,T,T,T,T,T,T,T,T,T,T,T,T,T,T,T,T,T,F,F,F,F,F,F,F,F,F,F,F,F,F,F,F,F,F,F]
abbrev impl_ValidIndex.m21_ : Array Bool := #[T,T,T,T,T,T,T,T,T,T,T,T,T,T,T,T,T,T,T,T,T,F,F,F,F,F,F,F,F,F,F,F,F,F,F,F,F,F]
abbrev impl_ValidIndex.m22_ : Array Bool := #[T,T,T,T,T,T,T,T,T,T,T,T,T,T,T,T,T,T,T,T,T,T,F,F,F,F,F,F,F,F,F,F,F,F,F,F,F,F]
abbrev impl_ValidIndex.m23_ : Array Bool := #[T,T,T,T,T,T,T,T,T,T,T,T,T,T,T,T,T,T,T,T,T,T,T,F,F,F,F,F,F,F,F,F,F,F,F,F,F,F]
abbrev impl_ValidIndex.m24_ : Array Bool := #[T,T,T,T,T,T,T,T,T,T,T,T,T,T,T,T,T,T,T,T,T,T,T,T,F,F,F,F,F,F,F,F,F,F,F,F,F,F]
abbrev impl_ValidIndex.m25_ : Array Bool := #[T,T,T,T,T,T,T,T,T,T,T,T,T,T,T,T,T,T,T,T,T,T,T,T,T,F,F,F,F,F,F,F,F,F,F,F,F,F]
abbrev impl_ValidIndex.m26_ : Array Bool := #[T,T,T,T,T,T,T,T,T,T,T,T,T,T,T,T,T,T,T,T,T,T,T,T,T,T,F,F,F,F,F,F,F,F,F,F,F,F]
abbrev impl_ValidIndex.m27_ : Array Bool := #[T,T,T,T,T,T,T,T,T,T,T,T,T,T,T,T,T,T,T,T,T,T,T,T,T,T,T,F,F,F,F,F,F,F,F,F,F,F]
abbrev impl_ValidIndex.m28_ : Array Bool := #[T,T,T,T,T,T,T,T,T,T,T,T,T,T,T,T,T,T,T,T,T,T,T,T,T,T,T,T,F,F,F,F,F,F,F,F,F,F]
abbrev impl_ValidIndex.m29_ : Array Bool := #[T,T,T,T,T,T,T,T,T,T,T,T,T,T,T,T,T,T,T,T,T,T,T,T,T,T,T,T,T,F,F,F,F,F,F,F,F,F]
abbrev impl_ValidIndex.m30_ : Array Bool := #[T,T,T,T,T,T,T,T,T,T,T,T,T,T,T,T,T,T,T,T,T,T,T,T,T,T,T,T,T,T,F,F,F,F,F,F,F,F]
abbrev impl_ValidIndex.m31_ : Array Bool := #[T,T,T,T,T,T,T,T,T,T,T,T,T,T,T,T,T,T,T,T,T,T,T,T,T,T,T,T,T,T,T,F,F,F,F,F,F,F]
abbrev impl_ValidIndex.m32_ : Array Bool := #[T,T,T,T,T,T,T,T,T,T,T,T,T,T,T,T,T,T,T,T,T,T,T,T,T,T,T,T,T,T,T,T,F,F,F,F,F,F]
abbrev impl_ValidIndex.m33_ : Array Bool := #[T,T,T,T,T,T,T,T,T,T,T,T,T,T,T,T,T,T,T,T,T,T,T,T,T,T,T,T,T,T,T,T,T,F,F,F,F,F]
abbrev impl_ValidIndex.m34_ : Array Bool := #[T,T,T,T,T,T,T,T,T,T,T,T,T,T,T,T,T,T,T,T,T,T,T,T,T,T,T,T,T,T,T,T,T,T,F,F,F,F]
abbrev impl_ValidIndex.m35_ : Array Bool := #[T,T,T,T,T,T,T,T,T,T,T,T,T,T,T,T,T,T,T,T,T,T,T,T,T,T,T,T,T,T,T,T,T,T,T,F,F,F]
abbrev impl_ValidIndex.m36_ : Array Bool := #[T,T,T,T,T,T,T,T,T,T,T,T,T,T,T,T,T,T,T,T,T,T,T,T,T,T,T,T,T,T,T,T,T,T,T,T,F,F]
abbrev impl_ValidIndex.m37_ : Array Bool := #[T,T,T,T,T,T,T,T,T,T,T,T,T,T,T,T,T,T,T,T,T,T,T,T,T,T,T,T,T,T,T,T,T,T,T,T,T,F]
abbrev impl_ValidIndex.m38_ : Array Bool := #[T,T,T,T,T,T,T,T,T,T,T,T,T,T,T,T,T,T,T,T,T,T,T,T,T,T,T,T,T,T,T,T,T,T,T,T,T,T]
abbrev impl_ValidIndex.m39_ : Array Bool := #[T,T,T,T,T,T,T,T,T,T,T,T,T,T,T,T,T,T,T,T,T,T,T,T,T,T,T,F,T,F,F,F,F,F,F,F,F,F]
abbrev impl_ValidIndex.m40_ : Array Bool := #[T,T,T,T,T,T,T,T,T,T,T,T,T,T,T,T,T,T,T,T,T,T,T,T,T,T,T,F,T,T,F,F,F,F,F,F,F,F]
abbrev impl_ValidIndex.m41_ : Array Bool := #[T,T,T,T,T,T,T,T,T,T,T,T,T,T,T,T,T,T,T,T,T,T,T,T,T,T,T,F,T,T,F,F,F,T,F,F,F,F]
abbrev impl_ValidIndex.m42_ : Array Bool := #[T,T,T,T,T,T,T,T,T,T,T,T,T,T,T,T,T,T,T,T,T,T,T,T,T,T,T,T,T,T,F,F,F,T,F,F,F,F]
abbrev impl_ValidIndex.m43_ : Array Bool := #[T,T,T,T,T,T,T,T,T,T,T,T,T,T,T,T,T,T,T,T,T,T,T,T,T,T,T,T,T,T,T,F,F,T,F,F,F,F]
abbrev impl_ValidIndex.m44_ : Array Bool := #[T,T,T,T,T,T,T,T,T,T,T,T,T,T,T,T,T,T,T,T,T,T,T,T,T,T,T,T,T,T,T,T,F,T,F,F,F,F]
def impl_ValidIndex.l0 : Nat → List (S63) → Int → Int → List (S63) → Option (Bool)
  | 0, _, _, _, _ => none
  | k + 1, x6, x7, x8, x188000 => if x8 < x7 then (if 0 ≤ x8 then (if x8 < (x6.length : Int) then ((impl_wordOk.f k ((rd_T63 x6 x8).f0)).bind fun t190 => (if t190 = true then (if (((rd_T63 x6 x8).f1).length : Int) < 1 then (some false) else (if (((rd_T63 x6 x8).f1).length : Int) > 40 then (some false) else ((impl_rising_v0.f k ((rd_T63 x6 x8).f1)).bind fun t191 => (if t191 = true then (if x8 > 0 then (if 0 ≤ (wrap64 (x8 - 1)) then (if (wrap64 (x8 - 1)) < (x188000.length : Int) then (if ((Op.bytesLess (((rd_T63 x188000 (wrap64 (x8 - 1))).f0).toList) (((rd_T63 x6 x8).f0).toList)) = true) then (impl_ValidIndex.l0 k x6 x7 (wrap64 (x8 + 1)) x188000) else (some false)) else (none)) else (none)) else (impl_ValidIndex.l0 k x6 x7 (wrap64 (x8 + 1)) x188000)) else (some false))))) else (some false))) else (none)) else (none)) else (some true)
def impl_ValidIndex.f (k : Nat) (l0_0 : List (S63)) : Option (Bool) := impl_ValidIndex.l0 k l0_0 (l0_0.length : Int) 0 l0_0
theorem impl_ValidIndex.mono_l : ∀ k, (∀ y0 y1 y2 y3, LeO (impl_ValidIndex.l0 k y0 y1 y2 y3) (impl_ValidIndex.l0 (k + 1) y0 y1 y2 y3))
  | 0 => fun _ _ _ _ r h => by simp [impl_ValidIndex.l0] at h
  | k + 1 => by
    have ih0 := impl_ValidIndex.mono_l k
    · intro y0 y1 y2 y3
      unfold impl_ValidIndex.l0
      repeat' first
      | (with_reducible exact ih0 _ _ _ _)
      | (with_reducible exact impl_rising_v0.mono _ _)
      | (with_reducible exact impl_wordOk.mono _ _)
      | (with_reducible exact LeO.refl _)
      | (with_reducible exact LeO.none _)
      | (with_reducible refine LeO.ite ?_ ?_)
      | (with_reducible refine LeO.bind ?_ (fun _ => ?_))
      | exact ih0 _ _ _ _
      | exact impl_rising_v0.mono _ _
      | exact impl_wordOk.mono _ _
      | exact LeO.none _
      | refine LeO.ite ?_ ?_
      | refine LeO.bind ?_ (fun _ => ?_)
theorem impl_ValidIndex.mono : ∀ a0 k, LeO (impl_ValidIndex.f k a0) (impl_ValidIndex.f (k + 1) a0) := by
  intro a0 k
  have ih0 := impl_ValidIndex.mono_l k
  unfold impl_ValidIndex.f
  repeat' first
      | (with_reducible exact ih0 _ _ _ _)
      | (with_reducible exact impl_rising_v0.mono _ _)
      | (with_reducible exact impl_wordOk.mono _ _)
      | (with_reducible exact LeO.refl _)
      | (with_reducible exact LeO.none _)
      | (with_reducible refine LeO.ite ?_ ?_)
      | (with_reducible refine LeO.bind ?_ (fun _ => ?_))
      | exact ih0 _ _ _ _
      | exact impl_rising_v0.mono _ _
      | exact impl_wordOk.mono _ _
      | exact LeO.none _
      | refine LeO.ite ?_ ?_
      | refine LeO.bind ?_ (fun _ => ?_)
def impl_ValidIndex.T4 : Bool × List (List Nat × List Nat) := (true, [([], []), ([0], [0]), ([1], [1]), ([2], [2]), ([3, 2], [3]), ([4], [4]), ([5, 4], [4, 5]), ([6, 4], [4, 6]), ([7, 4], [4, 7]), ([4, 8], [4, 8]), ([9, 4], [9]), ([10], [10]), ([11, 10], [10, 11]), ([12, 10], [10, 12]), ([13, 10], [10, 13]), ([10, 14], [10, 14]), ([15, 10], [15]), ([16], [16]), ([17, 16], [16, 17]), ([18, 16, 16], [16, 18]), ([19, 16], [16, 19]), ([16, 20], [16, 20]), ([21, 19], [21]), ([22], [22]), ([23, 22], [22, 23]), ([24, 22, 22], [22, 24]), ([25], [25]), ([26, 25], [25, 26]), ([25], [25]), ([28, 25], [25, 28]), ([27, 29, 25], [25, 27, 29]), ([30, 25], [25, 30]), ([31, 25], [25, 31]), ([25], [25]), ([33, 25], [25, 33]), ([32, 34, 25], [25, 32, 34]), ([25, 35, 22], [22, 25, 35]), ([22, 36], [22, 36])])
def impl_ValidIndex.B4 : List Nat := [0, 1, 3, 7, 15, 31, 63, 127, 255, 511, 1023, 2047, 4095, 8191, 16383, 32767, 65535, 131071, 262143, 524287, 1048575, 2097151, 4194303, 8388607, 16777215, 33554431, 67108863, 134217727, 67108863, 335544319, 1073741823, 2147483647, 4294967295, 67108863, 8657043455, 34359738367, 68719476735, 137438953471]
theorem impl_ValidIndex.tab4 : rtab .any (opsOf Try.f17 4) = impl_ValidIndex.T4 := by kernel_rfl
theorem impl_ValidIndex.bits4 : waitsOk impl_ValidIndex.T4.2 impl_ValidIndex.B4 = true := by kernel_rfl
set_option maxHeartbeats 8000000 in
set_option maxRecDepth 100000 in
theorem impl_ValidIndex.calls (k : Nat) (A0_0 : Option Addr) (c0_0 : Nat) (l0_0 : List (S63)) (r : Bool) (w : World) (hr0_0 : Kd.C k63 w A0_0 l0_0.length l0_0) (hc0_0 : l0_0.length ≤ c0_0) (h : impl_ValidIndex.f k l0_0 = some r) :
    Calls Try.prog 17 #[.agg #[.slice A0_0 l0_0.length c0_0]] w fun e w' => e = .returned (.bool r) ∧ Below w.heap.size w w' := by
 have hu29 := Try.underlying29
 have hu63 := Try.underlying63
 have HR0_0 := A_ hr0_0
 have HC0_0 := A_ hc0_0
 clear hr0_0 hc0_0
 have HB := A_ (Below.refl w.heap.size w)
 have H : (impl_ValidIndex.l0 k l0_0 (l0_0.length : Int) 0 l0_0) = some r := h
 clear h
 have H' := A_ H
 clear H
 go_enter Try.func17, Try.ntmps17
 go_wp2_with (first | ((with_reducible refine gate_dst (N := 1) rfl ?_); (try (refine gate_guard (by rfl) ?_; dsimp only)); refine bx_ 1 #[.slice A0_0 l0_0.length c0_0] 29 ?_; intro gb187 hg w2 hbox hb; have GW187 := b6_ hg HB; have GE187 := b6_ hg HB; replace HB := A_ (below_step (y1_ HB.out) hb); have BK187 := A_ (hbox); clear hb hbox hg; have hcz3_0 := c1_ BK187 0 (.slice A0_0 l0_0.length c0_0); have hfz3_0 := f1_ BK187 0))
 go_loopg [8] k (fun kq v8 w' => ∃ (x8_1 : Int), v8 = .int .i64 x8_1 ∧ Aside0 (impl_ValidIndex.l0 kq l0_0 (l0_0.length : Int) x8_1 l0_0 = some r) ∧ Aside0 (kq ≤ k) ∧ Aside0 (w'.heap[gb187]? = some (.cells #[(.slice A0_0 l0_0.length c0_0)] 29 (0, 0))) ∧ Aside0 (Below w.heap.size w w'))
 case atStart => exact ⟨(0), s1_, H', ⟨Nat.le_refl _⟩, ⟨b1_ BK187.out⟩, ⟨y1_ HB.out⟩⟩
 case round =>
  skip
  {
 clear H'
 try clear c1
 try clear p2
 try clear hcz3_0
 try clear hfz3_0
 obtain ⟨x8_1, rfl, HA, HK1, BK187, HB⟩ := hrel
 cases gk with
 | zero => exact absurd HA.out (by simp [impl_ValidIndex.l0])
 | succ k1 =>
  skip
  {
 have H := HA.out
 clear HA
 simp only [impl_ValidIndex.l0] at H
 by_cases c4 : x8_1 < (l0_0.length : Int)
 {
 rw [if_pos c4] at H
 have c4b0 : decide (x8_1 < (l0_0.length : Int)) = true := decide_eq_true c4
 clear c4
 by_cases c5 : 0 ≤ x8_1
 {
 rw [if_pos c5] at H
 have c5b0 : decide (0 ≤ x8_1) = true := decide_eq_true c5
 clear c5
 by_cases c6 : x8_1 < (l0_0.length : Int)
 {
 rw [if_pos c6] at H
 have c6b0 : decide (x8_1 < (l0_0.length : Int)) = true := decide_eq_true c6
 clear c6
 replace H := Option.bind_eq_some_iff.mp H
 obtain ⟨t190, A70, H⟩ := H
 replace H : (if t190 = true then (if (((rd_T63 l0_0 x8_1).f1).length : Int) < 1 then (some false) else (if (((rd_T63 l0_0 x8_1).f1).length : Int) > 40 then (some false) else ((impl_rising_v0.f k1 ((rd_T63 l0_0 x8_1).f1)).bind fun t191 => (if t191 = true then (if x8_1 > 0 then (if 0 ≤ (wrap64 (x8_1 - 1)) then (if (wrap64 (x8_1 - 1)) < (l0_0.length : Int) then (if ((Op.bytesLess (((rd_T63 l0_0 (wrap64 (x8_1 - 1))).f0).toList) (((rd_T63 l0_0 x8_1).f0).toList)) = true) then (impl_ValidIndex.l0 k1 l0_0 (l0_0.length : Int) (wrap64 (x8_1 + 1)) l0_0) else (some false)) else (none)) else (none)) else (impl_ValidIndex.l0 k1 l0_0 (l0_0.length : Int) (wrap64 (x8_1 + 1)) l0_0)) else (some false))))) else (some false)) = some r := H
 have A7 := A_ A70
 clear A70
 by_cases c8 : t190 = true
 {
 subst c8
 have H1 : (if (((rd_T63 l0_0 x8_1).f1).length : Int) < 1 then (some false) else (if (((rd_T63 l0_0 x8_1).f1).length : Int) > 40 then (some false) else ((impl_rising_v0.f k1 ((rd_T63 l0_0 x8_1).f1)).bind fun t191 => (if t191 = true then (if x8_1 > 0 then (if 0 ≤ (wrap64 (x8_1 - 1)) then (if (wrap64 (x8_1 - 1)) < (l0_0.length : Int) then (if ((Op.bytesLess (((rd_T63 l0_0 (wrap64 (x8_1 - 1))).f0).toList) (((rd_T63 l0_0 x8_1).f0).toList)) = true) then (impl_ValidIndex.l0 k1 l0_0 (l0_0.length : Int) (wrap64 (x8_1 + 1)) l0_0) else (some false)) else (none)) else (none)) else (impl_ValidIndex.l0 k1 l0_0 (l0_0.length : Int) (wrap64 (x8_1 + 1)) l0_0)) else (some false))))) = some r := by rw [if_pos rfl] at H; exact H
 clear H
 have H := H1
 clear H1
 by_cases c9 : (((rd_T63 l0_0 x8_1).f1).length : Int) < 1
 {
 rw [if_pos c9] at H
 have c9b0 : decide ((((rd_T63 l0_0 x8_1).f1).length : Int) < 1) = true := decide_eq_true c9
 have c9b1 : decide (((rd_T63 l0_0 x8_1).f1).length < 1) = true := decide_eq_true (by omega)
 clear c9
 obtain rfl := Option.some.inj H
 have p188 : 0 ≤ (x8_1 : Int) := o1_
 have q188 : x8_1 < (l0_0.length : Int) := o1_
 obtain ⟨ad188, A188_1, c188_1, e188, hx188_0, hx188_1, hl188_1, hi188_1⟩ := at_T63 HR0_0.out x8_1 p188 q188
 cases e188
 replace hx188_0 := (HB.out.cell (World.block_lt_of_cell? w _ hx188_0)).trans hx188_0
 replace hx188_1 := (HB.out.cell (World.block_lt_of_cell? w _ hx188_1)).trans hx188_1
 have HR188_1 := A_ hi188_1
 have HC188_1 := A_ hl188_1
 clear hi188_1 hl188_1
 replace p188 := eq_true p188
 replace q188 := eq_true q188
 try go_wp2_with (first | ((with_reducible refine gate_dst (N := 4) rfl ?_); (try (refine gate_guard (by rfl) ?_; dsimp only)); refine bx_ 4 #[.string (⟨#[]⟩ : ByteArray), .slice none 0 0] 63 ?_; intro gb189 hg w10 hbox hb; have GW189 := b6_ hg HB; have GE189 := b6_ hg HB; have NB187_189 := b4_ hg BK187; have NB189_187 := b5_ hg BK187; replace BK187 := b3_ BK187 hb; replace HB := A_ (below_step (y1_ HB.out) hb); have BK189 := A_ (hbox); clear hb hbox hg; have hnb11 := NB189_187.out; have hnc11 := NB187_189.out; have hcz12_0 := c1_ BK189 0 (.string (⟨#[]⟩ : ByteArray)); have hcz12_1 := c1_ BK189 1 (.slice none 0 0); have hfz12_0 := f1_ BK189 0; have hfz12_1 := f1_ BK189 1))
 have n0_ : Aside0 (((w10.setCell ⟨gb189, 0, none⟩ (.string ((rd_T63 l0_0 x8_1).f0))).setCell ⟨gb189, 1, none⟩ (.slice A188_1 ((rd_T63 l0_0 x8_1).f1).length c188_1)).heap[gb187]? = some (.cells #[.slice (some ad188) l0_0.length c0_0] 29 (0, 0))) := ⟨by refine b1_ ?_; refine blk_far ?_ NB187_189.out _; refine b1_ ?_; refine blk_far ?_ NB187_189.out _; refine b1_ ?_; exact BK187.out⟩
 have n1_ : Aside0 (((w10.setCell ⟨gb189, 0, none⟩ (.string ((rd_T63 l0_0 x8_1).f0))).setCell ⟨gb189, 1, none⟩ (.slice A188_1 ((rd_T63 l0_0 x8_1).f1).length c188_1)).heap[gb189]? = some (.cells #[.string ((rd_T63 l0_0 x8_1).f0), .slice A188_1 ((rd_T63 l0_0 x8_1).f1).length c188_1] 63 (0, 0))) := ⟨by refine b1_ ?_; refine blk_put (cs := #[.string ((rd_T63 l0_0 x8_1).f0), .slice none 0 0]) ?_ 1 _ rfl; refine b1_ ?_; refine blk_put (cs := #[.string (⟨#[]⟩ : ByteArray), .slice none 0 0]) ?_ 0 _ rfl; refine b1_ ?_; exact BK189.out⟩
 have n2_ : Aside0 (Below w.heap.size w ((w10.setCell ⟨gb189, 0, none⟩ (.string ((rd_T63 l0_0 x8_1).f0))).setCell ⟨gb189, 1, none⟩ (.slice A188_1 ((rd_T63 l0_0 x8_1).f1).length c188_1))) := ⟨by repeat (first | (with_reducible first | exact HB.out | apply below_alloc | apply pw_below_drewN | apply below_drew1 | refine below_set ?_ GE189.out) | exact HB.out)⟩
 (try clear BK187)
 (try clear BK189)
 (try clear HB)
 generalize ((w10.setCell ⟨gb189, 0, none⟩ (.string ((rd_T63 l0_0 x8_1).f0))).setCell ⟨gb189, 1, none⟩ (.slice A188_1 ((rd_T63 l0_0 x8_1).f1).length c188_1)) = w13 at n0_ n1_ n2_ ⊢
 have BK187 := n0_
 have BK189 := n1_
 have HB := n2_
 clear n0_ n1_ n2_
 replace BK187 := A_ (blk_drew BK187.out)
 replace BK189 := A_ (blk_drew BK189.out)
 replace HB := A_ (below_drew1 HB.out)
 refine start_ (n := 38) (S := fun w' => w'.cell? ⟨gb189, 0, none⟩ = some (.string ((rd_T63 l0_0 x8_1).f0)) ∧ w'.cell? ⟨gb189, 1, none⟩ = some (.slice A188_1 ((rd_T63 l0_0 x8_1).f1).length c188_1)) (ds := []) m0_ s2_ rfl rfl ⟨(blk_cell BK189.out 0).trans rfl, (blk_cell BK189.out 1).trans rfl⟩ (fun hHeld => ?_); refine with_tabW impl_ValidIndex.tab4 impl_ValidIndex.bits4 (fun HT_ HW_ => ?_)
 generalize w13.drew = w14 at BK187 BK189 HB hHeld ⊢
 refine pu_ 0 13 m1_ (any_of HT_.out s2_) ?_
 refine take_ (i := 1) (N := some 14) (v := ?_) (a' := ?_) m2_ rfl rfl (take_ofW HT_.out HW_.out s2_) (fun _ _ _ h => h) (Or.inl ⟨by rfl, ?_⟩) hHeld ?_ ?_
 rotate_left
 {
 rintro w' ⟨s0, s1⟩
 go_simp
 with_reducible rfl}
 rotate_left
 · exact p1_
 refine one_ (i := 2) (N := some 15) m3_ rfl rfl (one_of HT_.out s2_) (by decide) (fun K hK => ?_)
 refine goes_ Try.func51 s2_ rfl #[.string ((rd_T63 l0_0 x8_1).f0)] (by rfl) rfl rfl s3_ ?_
 with_reducible refine (impl_wordOk.calls k1 ((rd_T63 l0_0 x8_1).f0) true _ A7.out).mono ?_
 rintro e w' ⟨rfl, ⟨nd, rfl⟩⟩
 refine ⟨_, rfl, ?_⟩
 refine hK.out _ _ ⟨(blk_cell BK189.out 0).trans rfl, (blk_cell BK189.out 1).trans rfl⟩ (fun hHeld => ?_)
 clear hK K
 refine norm_ (a' := ?_) ?_ ?_
 rotate_left
 {
 show Act.put _ (some 15) _ = _
 simp only [Act.put, List.setIfInBounds_toArray, List.set_cons_zero, List.set_cons_succ, i64_w, i32_w]
 rfl}
 refine pu_ 3 16 m4_ (any_of HT_.out s2_) ?_
 refine pu_ 4 17 m5_ (any_of HT_.out s2_) ?_
 refine pu_ 5 18 m6_ (any_of HT_.out s2_) ?_
 refine take_ (i := 6) (N := some 19) (v := ?_) (a' := ?_) m7_ rfl rfl (take_ofW HT_.out HW_.out s2_) (fun _ _ _ h => h) (Or.inl ⟨by rfl, ?_⟩) hHeld ?_ ?_
 rotate_left
 {
 rintro w' ⟨s0, s1⟩
 go_simp
 with_reducible rfl}
 rotate_left
 · exact p1_
 refine pu_ 7 20 m8_ (any_of HT_.out s2_) ?_
 refine pu_ 8 21 m9_ (any_of HT_.out s2_) ?_
 refine pu_ 9 22 m10_ (any_of HT_.out s2_) ?_
 refine pu_ 10 23 m11_ (any_of HT_.out s2_) ?_
 refine pn_ 11 24 m12_ (any_of HT_.out s2_) ?_
 refine pn_ 12 25 m13_ (any_of HT_.out s2_) ?_
 refine pn_ 13 26 m14_ (any_of HT_.out s2_) ?_
 refine pn_ 14 27 m15_ (any_of HT_.out s2_) ?_
 refine pu_ 15 28 m16_ (any_of HT_.out s2_) ?_
 refine pu_ 16 29 m17_ (any_of HT_.out s2_) ?_
 refine pn_ 17 30 m18_ (any_of HT_.out s2_) ?_
 refine pn_ 18 31 m19_ (any_of HT_.out s2_) ?_
 refine pn_ 19 32 m20_ (any_of HT_.out s2_) ?_
 refine pn_ 20 33 m21_ (any_of HT_.out s2_) ?_
 refine pu_ 21 34 m22_ (any_of HT_.out s2_) ?_
 refine pu_ 22 35 m23_ (any_of HT_.out s2_) ?_
 refine pn_ 23 36 m24_ (any_of HT_.out s2_) ?_
 refine pn_ 24 37 m25_ (any_of HT_.out s2_) ?_
 refine pn_ 25 38 m26_ (any_of HT_.out s2_) ?_
 refine pn_ 26 39 m27_ (any_of HT_.out s2_) ?_
 refine pn_ 27 40 m28_ (any_of HT_.out s2_) ?_
 refine pn_ 28 41 m29_ (any_of HT_.out s2_) ?_
 refine pn_ 29 42 m30_ (any_of HT_.out s2_) ?_
 refine pn_ 30 43 m31_ (any_of HT_.out s2_) ?_
 refine pn_ 31 44 m32_ (any_of HT_.out s2_) ?_
 refine pn_ 32 45 m33_ (any_of HT_.out s2_) ?_
 refine pn_ 33 46 m34_ (any_of HT_.out s2_) ?_
 refine pn_ 34 47 m35_ (any_of HT_.out s2_) ?_
 refine pn_ 35 48 m36_ (any_of HT_.out s2_) ?_
 refine pn_ 36 49 m37_ (any_of HT_.out s2_) ?_
 refine pu_ 37 50 m38_ (any_of HT_.out s2_) ?_
 refine done_ (done_of HT_.out s2_) ?_
 try go_wp2
 go_ret
 exact ⟨e1_, y1_ HB.out⟩}
 {
 rw [if_neg c9] at H
 have c9b0 : decide ((((rd_T63 l0_0 x8_1).f1).length : Int) < 1) = false := decide_eq_false c9
 have c9b1 : decide (((rd_T63 l0_0 x8_1).f1).length < 1) = false := decide_eq_false (by omega)
 clear c9
 by_cases c15 : (((rd_T63 l0_0 x8_1).f1).length : Int) > 40
 {
 rw [if_pos c15] at H
 have c15b0 : decide (40 < (((rd_T63 l0_0 x8_1).f1).length : Int)) = true := decide_eq_true c15
 have c15b1 : decide (40 < ((rd_T63 l0_0 x8_1).f1).length) = true := decide_eq_true (by omega)
 clear c15
 obtain rfl := Option.some.inj H
 have p188 : 0 ≤ (x8_1 : Int) := o1_
 have q188 : x8_1 < (l0_0.length : Int) := o1_
 obtain ⟨ad188, A188_1, c188_1, e188, hx188_0, hx188_1, hl188_1, hi188_1⟩ := at_T63 HR0_0.out x8_1 p188 q188
 cases e188
 replace hx188_0 := (HB.out.cell (World.block_lt_of_cell? w _ hx188_0)).trans hx188_0
 replace hx188_1 := (HB.out.cell (World.block_lt_of_cell? w _ hx188_1)).trans hx188_1
 have HR188_1 := A_ hi188_1
 have HC188_1 := A_ hl188_1
 clear hi188_1 hl188_1
 replace p188 := eq_true p188
 replace q188 := eq_true q188
 try go_wp2_with (first | ((with_reducible refine gate_dst (N := 4) rfl ?_); (try (refine gate_guard (by rfl) ?_; dsimp only)); refine bx_ 4 #[.string (⟨#[]⟩ : ByteArray), .slice none 0 0] 63 ?_; intro gb189 hg w16 hbox hb; have GW189 := b6_ hg HB; have GE189 := b6_ hg HB; have NB187_189 := b4_ hg BK187; have NB189_187 := b5_ hg BK187; replace BK187 := b3_ BK187 hb; replace HB := A_ (below_step (y1_ HB.out) hb); have BK189 := A_ (hbox); clear hb hbox hg; have hnb17 := NB189_187.out; have hnc17 := NB187_189.out; have hcz18_0 := c1_ BK189 0 (.string (⟨#[]⟩ : ByteArray)); have hcz18_1 := c1_ BK189 1 (.slice none 0 0); have hfz18_0 := f1_ BK189 0; have hfz18_1 := f1_ BK189 1))
 have n0_ : Aside0 (((w16.setCell ⟨gb189, 0, none⟩ (.string ((rd_T63 l0_0 x8_1).f0))).setCell ⟨gb189, 1, none⟩ (.slice A188_1 ((rd_T63 l0_0 x8_1).f1).length c188_1)).heap[gb187]? = some (.cells #[.slice (some ad188) l0_0.length c0_0] 29 (0, 0))) := ⟨by refine b1_ ?_; refine blk_far ?_ NB187_189.out _; refine b1_ ?_; refine blk_far ?_ NB187_189.out _; refine b1_ ?_; exact BK187.out⟩
 have n1_ : Aside0 (((w16.setCell ⟨gb189, 0, none⟩ (.string ((rd_T63 l0_0 x8_1).f0))).setCell ⟨gb189, 1, none⟩ (.slice A188_1 ((rd_T63 l0_0 x8_1).f1).length c188_1)).heap[gb189]? = some (.cells #[.string ((rd_T63 l0_0 x8_1).f0), .slice A188_1 ((rd_T63 l0_0 x8_1).f1).length c188_1] 63 (0, 0))) := ⟨by refine b1_ ?_; refine blk_put (cs := #[.string ((rd_T63 l0_0 x8_1).f0), .slice none 0 0]) ?_ 1 _ rfl; refine b1_ ?_; refine blk_put (cs := #[.string (⟨#[]⟩ : ByteArray), .slice none 0 0]) ?_ 0 _ rfl; refine b1_ ?_; exact BK189.out⟩
 have n2_ : Aside0 (Below w.heap.size w ((w16.setCell ⟨gb189, 0, none⟩ (.string ((rd_T63 l0_0 x8_1).f0))).setCell ⟨gb189, 1, none⟩ (.slice A188_1 ((rd_T63 l0_0 x8_1).f1).length c188_1))) := ⟨by repeat (first | (with_reducible first | exact HB.out | apply below_alloc | apply pw_below_drewN | apply below_drew1 | refine below_set ?_ GE189.out) | exact HB.out)⟩
 (try clear BK187)
 (try clear BK189)
 (try clear HB)
 generalize ((w16.setCell ⟨gb189, 0, none⟩ (.string ((rd_T63 l0_0 x8_1).f0))).setCell ⟨gb189, 1, none⟩ (.slice A188_1 ((rd_T63 l0_0 x8_1).f1).length c188_1)) = w19 at n0_ n1_ n2_ ⊢
 have BK187 := n0_
 have BK189 := n1_
 have HB := n2_
 clear n0_ n1_ n2_
 replace BK187 := A_ (blk_drew BK187.out)
 replace BK189 := A_ (blk_drew BK189.out)
 replace HB := A_ (below_drew1 HB.out)
 refine start_ (n := 38) (S := fun w' => w'.cell? ⟨gb189, 0, none⟩ = some (.string ((rd_T63 l0_0 x8_1).f0)) ∧ w'.cell? ⟨gb189, 1, none⟩ = some (.slice A188_1 ((rd_T63 l0_0 x8_1).f1).length c188_1)) (ds := []) m0_ s2_ rfl rfl ⟨(blk_cell BK189.out 0).trans rfl, (blk_cell BK189.out 1).trans rfl⟩ (fun hHeld => ?_); refine with_tabW impl_ValidIndex.tab4 impl_ValidIndex.bits4 (fun HT_ HW_ => ?_)
 generalize w19.drew = w20 at BK187 BK189 HB hHeld ⊢
 refine pu_ 0 13 m1_ (any_of HT_.out s2_) ?_
 refine take_ (i := 1) (N := some 14) (v := ?_) (a' := ?_) m2_ rfl rfl (take_ofW HT_.out HW_.out s2_) (fun _ _ _ h => h) (Or.inl ⟨by rfl, ?_⟩) hHeld ?_ ?_
 rotate_left
 {
 rintro w' ⟨s0, s1⟩
 go_simp
 with_reducible rfl}
 rotate_left
 · exact p1_
 refine one_ (i := 2) (N := some 15) m3_ rfl rfl (one_of HT_.out s2_) (by decide) (fun K hK => ?_)
 refine goes_ Try.func51 s2_ rfl #[.string ((rd_T63 l0_0 x8_1).f0)] (by rfl) rfl rfl s3_ ?_
 with_reducible refine (impl_wordOk.calls k1 ((rd_T63 l0_0 x8_1).f0) true _ A7.out).mono ?_
 rintro e w' ⟨rfl, ⟨nd, rfl⟩⟩
 refine ⟨_, rfl, ?_⟩
 refine hK.out _ _ ⟨(blk_cell BK189.out 0).trans rfl, (blk_cell BK189.out 1).trans rfl⟩ (fun hHeld => ?_)
 clear hK K
 refine norm_ (a' := ?_) ?_ ?_
 rotate_left
 {
 show Act.put _ (some 15) _ = _
 simp only [Act.put, List.setIfInBounds_toArray, List.set_cons_zero, List.set_cons_succ, i64_w, i32_w]
 rfl}
 refine pu_ 3 16 m4_ (any_of HT_.out s2_) ?_
 refine pu_ 4 17 m5_ (any_of HT_.out s2_) ?_
 refine pu_ 5 18 m6_ (any_of HT_.out s2_) ?_
 refine take_ (i := 6) (N := some 19) (v := ?_) (a' := ?_) m7_ rfl rfl (take_ofW HT_.out HW_.out s2_) (fun _ _ _ h => h) (Or.inl ⟨by rfl, ?_⟩) hHeld ?_ ?_
 rotate_left
 {
 rintro w' ⟨s0, s1⟩
 go_simp
 with_reducible rfl}
 rotate_left
 · exact p1_
 refine pu_ 7 20 m8_ (any_of HT_.out s2_) ?_
 refine pu_ 8 21 m9_ (any_of HT_.out s2_) ?_
 refine pu_ 9 22 m10_ (any_of HT_.out s2_) ?_
 refine pu_ 10 23 m11_ (any_of HT_.out s2_) ?_
 refine pu_ 11 24 m12_ (any_of HT_.out s2_) ?_
 refine take_ (i := 12) (N := some 25) (v := ?_) (a' := ?_) m13_ rfl rfl (take_ofW HT_.out HW_.out s2_) (fun _ _ _ h => h) (Or.inl ⟨by rfl, ?_⟩) hHeld ?_ ?_
 rotate_left
 {
 rintro w' ⟨s0, s1⟩
 go_simp
 with_reducible rfl}
 rotate_left
 · exact p1_
 refine pu_ 13 26 m14_ (any_of HT_.out s2_) ?_
 refine pu_ 14 27 m15_ (any_of HT_.out s2_) ?_
 refine pu_ 15 28 m16_ (any_of HT_.out s2_) ?_
 refine pu_ 16 29 m17_ (any_of HT_.out s2_) ?_
 refine pn_ 17 30 m18_ (any_of HT_.out s2_) ?_
 refine pn_ 18 31 m19_ (any_of HT_.out s2_) ?_
 refine pn_ 19 32 m20_ (any_of HT_.out s2_) ?_
 refine pn_ 20 33 m21_ (any_of HT_.out s2_) ?_
 refine pu_ 21 34 m22_ (any_of HT_.out s2_) ?_
 refine pu_ 22 35 m23_ (any_of HT_.out s2_) ?_
 refine pn_ 23 36 m24_ (any_of HT_.out s2_) ?_
 refine pn_ 24 37 m25_ (any_of HT_.out s2_) ?_
 refine pn_ 25 38 m26_ (any_of HT_.out s2_) ?_
 refine pn_ 26 39 m27_ (any_of HT_.out s2_) ?_
 refine pn_ 27 40 m28_ (any_of HT_.out s2_) ?_
 refine pn_ 28 41 m29_ (any_of HT_.out s2_) ?_
 refine pn_ 29 42 m30_ (any_of HT_.out s2_) ?_
 refine pn_ 30 43 m31_ (any_of HT_.out s2_) ?_
 refine pn_ 31 44 m32_ (any_of HT_.out s2_) ?_
 refine pn_ 32 45 m33_ (any_of HT_.out s2_) ?_
 refine pn_ 33 46 m34_ (any_of HT_.out s2_) ?_
 refine pn_ 34 47 m35_ (any_of HT_.out s2_) ?_
 refine pn_ 35 48 m36_ (any_of HT_.out s2_) ?_
 refine pn_ 36 49 m37_ (any_of HT_.out s2_) ?_
 refine pu_ 37 50 m38_ (any_of HT_.out s2_) ?_
 refine done_ (done_of HT_.out s2_) ?_
 try go_wp2
 go_ret
 exact ⟨e1_, y1_ HB.out⟩}
 {
 rw [if_neg c15] at H
 have c15b0 : decide (40 < (((rd_T63 l0_0 x8_1).f1).length : Int)) = false := decide_eq_false c15
 have c15b1 : decide (40 < ((rd_T63 l0_0 x8_1).f1).length) = false := decide_eq_false (by omega)
 clear c15
 replace H := Option.bind_eq_some_iff.mp H
 obtain ⟨t191, A210, H⟩ := H
 replace H : (if t191 = true then (if x8_1 > 0 then (if 0 ≤ (wrap64 (x8_1 - 1)) then (if (wrap64 (x8_1 - 1)) < (l0_0.length : Int) then (if ((Op.bytesLess (((rd_T63 l0_0 (wrap64 (x8_1 - 1))).f0).toList) (((rd_T63 l0_0 x8_1).f0).toList)) = true) then (impl_ValidIndex.l0 k1 l0_0 (l0_0.length : Int) (wrap64 (x8_1 + 1)) l0_0) else (some false)) else (none)) else (none)) else (impl_ValidIndex.l0 k1 l0_0 (l0_0.length : Int) (wrap64 (x8_1 + 1)) l0_0)) else (some false)) = some r := H
 have A21 := A_ A210
 clear A210
 by_cases c22 : t191 = true
 {
 subst c22
 have H1 : (if x8_1 > 0 then (if 0 ≤ (wrap64 (x8_1 - 1)) then (if (wrap64 (x8_1 - 1)) < (l0_0.length : Int) then (if ((Op.bytesLess (((rd_T63 l0_0 (wrap64 (x8_1 - 1))).f0).toList) (((rd_T63 l0_0 x8_1).f0).toList)) = true) then (impl_ValidIndex.l0 k1 l0_0 (l0_0.length : Int) (wrap64 (x8_1 + 1)) l0_0) else (some false)) else (none)) else (none)) else (impl_ValidIndex.l0 k1 l0_0 (l0_0.length : Int) (wrap64 (x8_1 + 1)) l0_0)) = some r := by rw [if_pos rfl] at H; exact H
 clear H
 have H := H1
 clear H1
 by_cases c23 : x8_1 > 0
 {
 rw [if_pos c23] at H
 have c23b0 : decide (0 < x8_1) = true := decide_eq_true c23
 clear c23
 obtain ⟨ji24, hji24⟩ : ∃ j_ : Int, (wrap64 (x8_1 - 1)) = j_ := ⟨_, rfl⟩
 replace H : (if 0 ≤ (ji24) then (if (ji24) < (l0_0.length : Int) then (if ((Op.bytesLess (((rd_T63 l0_0 (ji24)).f0).toList) (((rd_T63 l0_0 x8_1).f0).toList)) = true) then (impl_ValidIndex.l0 k1 l0_0 (l0_0.length : Int) (wrap64 (x8_1 + 1)) l0_0) else (some false)) else (none)) else (none)) = some r := by first | (rw [hji24] at H; exact H) | (simp only [hji24] at H ⊢; exact H)
 (try rw [hji24] at A7)
 (try rw [hji24] at A21)
 have hji24w : (IntKind.i64.wrap (x8_1 - 1)) = ji24 := (i64_w _).trans hji24
 by_cases c25 : 0 ≤ (ji24)
 {
 rw [if_pos c25] at H
 have c25b0 : decide (0 ≤ (ji24)) = true := decide_eq_true c25
 clear c25
 by_cases c26 : (ji24) < (l0_0.length : Int)
 {
 rw [if_pos c26] at H
 have c26b0 : decide ((ji24) < (l0_0.length : Int)) = true := decide_eq_true c26
 clear c26
 by_cases c27 : ((Op.bytesLess (((rd_T63 l0_0 (ji24)).f0).toList) (((rd_T63 l0_0 x8_1).f0).toList)) = true)
 {
 rw [if_pos c27] at H
 have c27b0 : (Op.bytesLess (((rd_T63 l0_0 (ji24)).f0).toList) (((rd_T63 l0_0 x8_1).f0).toList)) = true := c27
 clear c27
 have H' := A_ H
 clear H
 have p188 : 0 ≤ (x8_1 : Int) := o1_
 have q188 : x8_1 < (l0_0.length : Int) := o1_
 obtain ⟨ad188, A188_1, c188_1, e188, hx188_0, hx188_1, hl188_1, hi188_1⟩ := at_T63 HR0_0.out x8_1 p188 q188
 cases e188
 replace hx188_0 := (HB.out.cell (World.block_lt_of_cell? w _ hx188_0)).trans hx188_0
 replace hx188_1 := (HB.out.cell (World.block_lt_of_cell? w _ hx188_1)).trans hx188_1
 have HR188_1 := A_ hi188_1
 have HC188_1 := A_ hl188_1
 clear hi188_1 hl188_1
 replace p188 := eq_true p188
 replace q188 := eq_true q188
 try go_wp2_with (first | ((with_reducible refine gate_dst (N := 4) rfl ?_); (try (refine gate_guard (by rfl) ?_; dsimp only)); refine bx_ 4 #[.string (⟨#[]⟩ : ByteArray), .slice none 0 0] 63 ?_; intro gb189 hg w28 hbox hb; have GW189 := b6_ hg HB; have GE189 := b6_ hg HB; have NB187_189 := b4_ hg BK187; have NB189_187 := b5_ hg BK187; replace BK187 := b3_ BK187 hb; replace HB := A_ (below_step (y1_ HB.out) hb); have BK189 := A_ (hbox); clear hb hbox hg; have hnb29 := NB189_187.out; have hnc29 := NB187_189.out; have hcz30_0 := c1_ BK189 0 (.string (⟨#[]⟩ : ByteArray)); have hcz30_1 := c1_ BK189 1 (.slice none 0 0); have hfz30_0 := f1_ BK189 0; have hfz30_1 := f1_ BK189 1))
 have n0_ : Aside0 (((w28.setCell ⟨gb189, 0, none⟩ (.string ((rd_T63 l0_0 x8_1).f0))).setCell ⟨gb189, 1, none⟩ (.slice A188_1 ((rd_T63 l0_0 x8_1).f1).length c188_1)).heap[gb187]? = some (.cells #[.slice (some ad188) l0_0.length c0_0] 29 (0, 0))) := ⟨by refine b1_ ?_; refine blk_far ?_ NB187_189.out _; refine b1_ ?_; refine blk_far ?_ NB187_189.out _; refine b1_ ?_; exact BK187.out⟩
 have n1_ : Aside0 (((w28.setCell ⟨gb189, 0, none⟩ (.string ((rd_T63 l0_0 x8_1).f0))).setCell ⟨gb189, 1, none⟩ (.slice A188_1 ((rd_T63 l0_0 x8_1).f1).length c188_1)).heap[gb189]? = some (.cells #[.string ((rd_T63 l0_0 x8_1).f0), .slice A188_1 ((rd_T63 l0_0 x8_1).f1).length c188_1] 63 (0, 0))) := ⟨by refine b1_ ?_; refine blk_put (cs := #[.string ((rd_T63 l0_0 x8_1).f0), .slice none 0 0]) ?_ 1 _ rfl; refine b1_ ?_; refine blk_put (cs := #[.string (⟨#[]⟩ : ByteArray), .slice none 0 0]) ?_ 0 _ rfl; refine b1_ ?_; exact BK189.out⟩
 have n2_ : Aside0 (Below w.heap.size w ((w28.setCell ⟨gb189, 0, none⟩ (.string ((rd_T63 l0_0 x8_1).f0))).setCell ⟨gb189, 1, none⟩ (.slice A188_1 ((rd_T63 l0_0 x8_1).f1).length c188_1))) := ⟨by repeat (first | (with_reducible first | exact HB.out | apply below_alloc | apply pw_below_drewN | apply below_drew1 | refine below_set ?_ GE189.out) | exact HB.out)⟩
 (try clear BK187)
 (try clear BK189)
 (try clear HB)
 generalize ((w28.setCell ⟨gb189, 0, none⟩ (.string ((rd_T63 l0_0 x8_1).f0))).setCell ⟨gb189, 1, none⟩ (.slice A188_1 ((rd_T63 l0_0 x8_1).f1).length c188_1)) = w31 at n0_ n1_ n2_ ⊢
 have BK187 := n0_
 have BK189 := n1_
 have HB := n2_
 clear n0_ n1_ n2_
 replace BK187 := A_ (blk_drew BK187.out)
 replace BK189 := A_ (blk_drew BK189.out)
 replace HB := A_ (below_drew1 HB.out)
 have p192 : 0 ≤ ((ji24) : Int) := o1_
 have q192 : (ji24) < (l0_0.length : Int) := o1_
 obtain ⟨ad192, A192_1, c192_1, e192, hx192_0, hx192_1, hl192_1, hi192_1⟩ := at_T63 HR0_0.out (ji24) p192 q192
 have hw192_1 := hx192_1
 have hw192_0 := hx192_0
 obtain rfl : ad188 = ad192 := (by injection e192)
 replace hx192_0 := (HB.out.cell (World.block_lt_of_cell? w _ hx192_0)).trans hx192_0
 replace hx192_1 := (HB.out.cell (World.block_lt_of_cell? w _ hx192_1)).trans hx192_1
 have HR192_1 := A_ hi192_1
 have HC192_1 := A_ hl192_1
 clear hi192_1 hl192_1
 replace p192 := eq_true p192
 replace q192 := eq_true q192
 refine start_ (n := 38) (S := fun w' => w'.cell? ⟨gb189, 0, none⟩ = some (.string ((rd_T63 l0_0 x8_1).f0)) ∧ w'.cell? ⟨gb189, 1, none⟩ = some (.slice A188_1 ((rd_T63 l0_0 x8_1).f1).length c188_1) ∧ w'.cell? ⟨gb187, 0, none⟩ = some (.slice (some ad188) l0_0.length c0_0) ∧ w'.cell? (ad188.add (((ji24)).toNat * 2)) = some (.string ((rd_T63 l0_0 (ji24)).f0)) ∧ w'.cell? ⟨(ad188.add (((ji24)).toNat * 2)).block, (ad188.add (((ji24)).toNat * 2)).off + 1, none⟩ = some (.slice A192_1 ((rd_T63 l0_0 (ji24)).f1).length c192_1)) (ds := []) m0_ s2_ rfl rfl ⟨(blk_cell BK189.out 0).trans rfl, (blk_cell BK189.out 1).trans rfl, (blk_cell BK187.out 0).trans rfl, ((HB.out.cell (World.block_lt_of_cell? w _ hw192_0)).trans hw192_0), ((HB.out.cell (World.block_lt_of_cell? w _ hw192_1)).trans hw192_1)⟩ (fun hHeld => ?_); refine with_tabW impl_ValidIndex.tab4 impl_ValidIndex.bits4 (fun HT_ HW_ => ?_)
 generalize w31.drew = w32 at BK187 BK189 HB HR192_1 hx192_0 hx192_1 hHeld ⊢
 refine pu_ 0 13 m1_ (any_of HT_.out s2_) ?_
 refine take_ (i := 1) (N := some 14) (v := ?_) (a' := ?_) m2_ rfl rfl (take_ofW HT_.out HW_.out s2_) (fun _ _ _ h => h) (Or.inl ⟨by rfl, ?_⟩) hHeld ?_ ?_
 rotate_left
 {
 rintro w' ⟨s0, s1, s2, s3, s4⟩
 go_simp
 with_reducible rfl}
 rotate_left
 · exact p1_
 refine one_ (i := 2) (N := some 15) m3_ rfl rfl (one_of HT_.out s2_) (by decide) (fun K hK => ?_)
 refine goes_ Try.func51 s2_ rfl #[.string ((rd_T63 l0_0 x8_1).f0)] (by rfl) rfl rfl s3_ ?_
 with_reducible refine (impl_wordOk.calls k1 ((rd_T63 l0_0 x8_1).f0) true _ A7.out).mono ?_
 rintro e w' ⟨rfl, ⟨nd, rfl⟩⟩
 refine ⟨_, rfl, ?_⟩
 refine hK.out _ _ ⟨(blk_cell BK189.out 0).trans rfl, (blk_cell BK189.out 1).trans rfl, (blk_cell BK187.out 0).trans rfl, ((HB.out.cell (World.block_lt_of_cell? w _ hw192_0)).trans hw192_0), ((HB.out.cell (World.block_lt_of_cell? w _ hw192_1)).trans hw192_1)⟩ (fun hHeld => ?_)
 clear hK K
 refine norm_ (a' := ?_) ?_ ?_
 rotate_left
 {
 show Act.put _ (some 15) _ = _
 simp only [Act.put, List.setIfInBounds_toArray, List.set_cons_zero, List.set_cons_succ, i64_w, i32_w]
 rfl}
 refine pu_ 3 16 m4_ (any_of HT_.out s2_) ?_
 refine pu_ 4 17 m5_ (any_of HT_.out s2_) ?_
 refine pu_ 5 18 m6_ (any_of HT_.out s2_) ?_
 refine take_ (i := 6) (N := some 19) (v := ?_) (a' := ?_) m7_ rfl rfl (take_ofW HT_.out HW_.out s2_) (fun _ _ _ h => h) (Or.inl ⟨by rfl, ?_⟩) hHeld ?_ ?_
 rotate_left
 {
 rintro w' ⟨s0, s1, s2, s3, s4⟩
 go_simp
 with_reducible rfl}
 rotate_left
 · exact p1_
 refine pu_ 7 20 m8_ (any_of HT_.out s2_) ?_
 refine pu_ 8 21 m9_ (any_of HT_.out s2_) ?_
 refine pu_ 9 22 m10_ (any_of HT_.out s2_) ?_
 refine pu_ 10 23 m11_ (any_of HT_.out s2_) ?_
 refine pu_ 11 24 m12_ (any_of HT_.out s2_) ?_
 refine take_ (i := 12) (N := some 25) (v := ?_) (a' := ?_) m13_ rfl rfl (take_ofW HT_.out HW_.out s2_) (fun _ _ _ h => h) (Or.inl ⟨by rfl, ?_⟩) hHeld ?_ ?_
 rotate_left
 {
 rintro w' ⟨s0, s1, s2, s3, s4⟩
 go_simp
 with_reducible rfl}
 rotate_left
 · exact p1_
 refine pu_ 13 26 m14_ (any_of HT_.out s2_) ?_
 refine pu_ 14 27 m15_ (any_of HT_.out s2_) ?_
 refine pu_ 15 28 m16_ (any_of HT_.out s2_) ?_
 refine pu_ 16 29 m17_ (any_of HT_.out s2_) ?_
 refine pu_ 17 30 m18_ (any_of HT_.out s2_) ?_
 refine take_ (i := 18) (N := some 31) (v := ?_) (a' := ?_) m19_ rfl rfl (take_ofW HT_.out HW_.out s2_) (fun _ _ _ h => h) (Or.inl ⟨by rfl, ?_⟩) hHeld ?_ ?_
 rotate_left
 {
 rintro w' ⟨s0, s1, s2, s3, s4⟩
 go_simp
 with_reducible rfl}
 rotate_left
 · exact p1_
 refine one_ (i := 19) (N := some 32) m20_ rfl rfl (one_of HT_.out s2_) (by decide) (fun K hK => ?_)
 refine goes_ Try.func52 s2_ rfl #[.slice A188_1 ((rd_T63 l0_0 x8_1).f1).length c188_1, .func (.func 53) #[] #[]] (by rfl) rfl rfl s3_ ?_
 with_reducible refine (impl_rising_v0.calls k1 _ _ ((rd_T63 l0_0 x8_1).f1)  true _ ?side1 ?side2 A21.out).mono ?_
 (case side1 => exact y2_ (Kd.C_below HR188_1.out (y1_ HB.out)))
 (case side2 => exact HC188_1.out)
 rintro e w' ⟨rfl, ⟨nd, rfl⟩⟩
 refine ⟨_, rfl, ?_⟩
 refine hK.out _ _ ⟨(blk_cell BK189.out 0).trans rfl, (blk_cell BK189.out 1).trans rfl, (blk_cell BK187.out 0).trans rfl, ((HB.out.cell (World.block_lt_of_cell? w _ hw192_0)).trans hw192_0), ((HB.out.cell (World.block_lt_of_cell? w _ hw192_1)).trans hw192_1)⟩ (fun hHeld => ?_)
 clear hK K
 refine norm_ (a' := ?_) ?_ ?_
 rotate_left
 {
 show Act.put _ (some 32) _ = _
 simp only [Act.put, List.setIfInBounds_toArray, List.set_cons_zero, List.set_cons_succ, i64_w, i32_w]
 rfl}
 refine pu_ 20 33 m21_ (any_of HT_.out s2_) ?_
 refine pu_ 21 34 m22_ (any_of HT_.out s2_) ?_
 refine pu_ 22 35 m23_ (any_of HT_.out s2_) ?_
 refine pu_ 23 36 m24_ (any_of HT_.out s2_) ?_
 refine pu_ 24 37 m25_ (any_of HT_.out s2_) ?_
 refine pu_ 25 38 m26_ (any_of HT_.out s2_) ?_
 refine pu_ 26 39 m27_ (any_of HT_.out s2_) ?_
 refine pu_ 28 41 m39_ (any_of HT_.out s2_) ?_
 refine pu_ 29 42 m40_ (any_of HT_.out s2_) ?_
 refine pu_ 33 46 m41_ (any_of HT_.out s2_) ?_
 refine take_ (i := 27) (N := some 40) (v := ?_) (a' := ?_) m42_ rfl rfl (take_ofW HT_.out HW_.out s2_) (fun _ _ _ h => h) (Or.inl ⟨by rfl, ?_⟩) hHeld ?_ ?_
 rotate_left
 {
 rintro w' ⟨s0, s1, s2, s3, s4⟩
 go_simp
 with_reducible rfl}
 rotate_left
 · exact p1_
 refine pu_ 30 43 m43_ (any_of HT_.out s2_) ?_
 refine pu_ 31 44 m44_ (any_of HT_.out s2_) ?_
 refine take_ (i := 32) (N := some 45) (v := ?_) (a' := ?_) m34_ rfl rfl (take_ofW HT_.out HW_.out s2_) (fun _ _ _ h => h) (Or.inl ⟨by rfl, ?_⟩) hHeld ?_ ?_
 rotate_left
 {
 rintro w' ⟨s0, s1, s2, s3, s4⟩
 go_simp
 with_reducible rfl}
 rotate_left
 · exact p1_
 refine take_ (i := 34) (N := some 47) (v := ?_) (a' := ?_) m35_ rfl rfl (take_ofW HT_.out HW_.out s2_) (fun _ _ _ h => h) (Or.inl ⟨by rfl, ?_⟩) hHeld ?_ ?_
 rotate_left
 {
 rintro w' ⟨s0, s1, s2, s3, s4⟩
 go_simp
 with_reducible rfl}
 rotate_left
 · exact p1_
 refine pu_ 35 48 m36_ (any_of HT_.out s2_) ?_
 refine pu_ 36 49 m37_ (any_of HT_.out s2_) ?_
 refine pu_ 37 50 m38_ (any_of HT_.out s2_) ?_
 refine done_ (done_of HT_.out s2_) ?_
 try go_wp2
 go_roundg k1
 case measure => have := HK1.out; omega
 case rel => exact ⟨(wrap64 (x8_1 + 1)), s1_, H', ⟨by have := HK1.out; omega⟩, ⟨b1_ BK187.out⟩, ⟨y1_ HB.out⟩⟩}
 {
 rw [if_neg c27] at H
 have c27b0 : (Op.bytesLess (((rd_T63 l0_0 (ji24)).f0).toList) (((rd_T63 l0_0 x8_1).f0).toList)) = false := by simpa using c27
 clear c27
 obtain rfl := Option.some.inj H
 have p188 : 0 ≤ (x8_1 : Int) := o1_
 have q188 : x8_1 < (l0_0.length : Int) := o1_
 obtain ⟨ad188, A188_1, c188_1, e188, hx188_0, hx188_1, hl188_1, hi188_1⟩ := at_T63 HR0_0.out x8_1 p188 q188
 cases e188
 replace hx188_0 := (HB.out.cell (World.block_lt_of_cell? w _ hx188_0)).trans hx188_0
 replace hx188_1 := (HB.out.cell (World.block_lt_of_cell? w _ hx188_1)).trans hx188_1
 have HR188_1 := A_ hi188_1
 have HC188_1 := A_ hl188_1
 clear hi188_1 hl188_1
 replace p188 := eq_true p188
 replace q188 := eq_true q188
 try go_wp2_with (first | ((with_reducible refine gate_dst (N := 4) rfl ?_); (try (refine gate_guard (by rfl) ?_; dsimp only)); refine bx_ 4 #[.string (⟨#[]⟩ : ByteArray), .slice none 0 0] 63 ?_; intro gb189 hg w33 hbox hb; have GW189 := b6_ hg HB; have GE189 := b6_ hg HB; have NB187_189 := b4_ hg BK187; have NB189_187 := b5_ hg BK187; replace BK187 := b3_ BK187 hb; replace HB := A_ (below_step (y1_ HB.out) hb); have BK189 := A_ (hbox); clear hb hbox hg; have hnb34 := NB189_187.out; have hnc34 := NB187_189.out; have hcz35_0 := c1_ BK189 0 (.string (⟨#[]⟩ : ByteArray)); have hcz35_1 := c1_ BK189 1 (.slice none 0 0); have hfz35_0 := f1_ BK189 0; have hfz35_1 := f1_ BK189 1))
 have n0_ : Aside0 (((w33.setCell ⟨gb189, 0, none⟩ (.string ((rd_T63 l0_0 x8_1).f0))).setCell ⟨gb189, 1, none⟩ (.slice A188_1 ((rd_T63 l0_0 x8_1).f1).length c188_1)).heap[gb187]? = some (.cells #[.slice (some ad188) l0_0.length c0_0] 29 (0, 0))) := ⟨by refine b1_ ?_; refine blk_far ?_ NB187_189.out _; refine b1_ ?_; refine blk_far ?_ NB187_189.out _; refine b1_ ?_; exact BK187.out⟩
 have n1_ : Aside0 (((w33.setCell ⟨gb189, 0, none⟩ (.string ((rd_T63 l0_0 x8_1).f0))).setCell ⟨gb189, 1, none⟩ (.slice A188_1 ((rd_T63 l0_0 x8_1).f1).length c188_1)).heap[gb189]? = some (.cells #[.string ((rd_T63 l0_0 x8_1).f0), .slice A188_1 ((rd_T63 l0_0 x8_1).f1).length c188_1] 63 (0, 0))) := ⟨by refine b1_ ?_; refine blk_put (cs := #[.string ((rd_T63 l0_0 x8_1).f0), .slice none 0 0]) ?_ 1 _ rfl; refine b1_ ?_; refine blk_put (cs := #[.string (⟨#[]⟩ : ByteArray), .slice none 0 0]) ?_ 0 _ rfl; refine b1_ ?_; exact BK189.out⟩
 have n2_ : Aside0 (Below w.heap.size w ((w33.setCell ⟨gb189, 0, none⟩ (.string ((rd_T63 l0_0 x8_1).f0))).setCell ⟨gb189, 1, none⟩ (.slice A188_1 ((rd_T63 l0_0 x8_1).f1).length c188_1))) := ⟨by repeat (first | (with_reducible first | exact HB.out | apply below_alloc | apply pw_below_drewN | apply below_drew1 | refine below_set ?_ GE189.out) | exact HB.out)⟩
 (try clear BK187)
 (try clear BK189)
 (try clear HB)
 generalize ((w33.setCell ⟨gb189, 0, none⟩ (.string ((rd_T63 l0_0 x8_1).f0))).setCell ⟨gb189, 1, none⟩ (.slice A188_1 ((rd_T63 l0_0 x8_1).f1).length c188_1)) = w36 at n0_ n1_ n2_ ⊢
 have BK187 := n0_
 have BK189 := n1_
 have HB := n2_
 clear n0_ n1_ n2_
 replace BK187 := A_ (blk_drew BK187.out)
 replace BK189 := A_ (blk_drew BK189.out)
 replace HB := A_ (below_drew1 HB.out)
 have p192 : 0 ≤ ((ji24) : Int) := o1_
 have q192 : (ji24) < (l0_0.length : Int) := o1_
 obtain ⟨ad192, A192_1, c192_1, e192, hx192_0, hx192_1, hl192_1, hi192_1⟩ := at_T63 HR0_0.out (ji24) p192 q192
 have hw192_1 := hx192_1
 have hw192_0 := hx192_0
 obtain rfl : ad188 = ad192 := (by injection e192)
 replace hx192_0 := (HB.out.cell (World.block_lt_of_cell? w _ hx192_0)).trans hx192_0
 replace hx192_1 := (HB.out.cell (World.block_lt_of_cell? w _ hx192_1)).trans hx192_1
 have HR192_1 := A_ hi192_1
 have HC192_1 := A_ hl192_1
 clear hi192_1 hl192_1
 replace p192 := eq_true p192
 replace q192 := eq_true q192
 refine start_ (n := 38) (S := fun w' => w'.cell? ⟨gb189, 0, none⟩ = some (.string ((rd_T63 l0_0 x8_1).f0)) ∧ w'.cell? ⟨gb189, 1, none⟩ = some (.slice A188_1 ((rd_T63 l0_0 x8_1).f1).length c188_1) ∧ w'.cell? ⟨gb187, 0, none⟩ = some (.slice (some ad188) l0_0.length c0_0) ∧ w'.cell? (ad188.add (((ji24)).toNat * 2)) = some (.string ((rd_T63 l0_0 (ji24)).f0)) ∧ w'.cell? ⟨(ad188.add (((ji24)).toNat * 2)).block, (ad188.add (((ji24)).toNat * 2)).off + 1, none⟩ = some (.slice A192_1 ((rd_T63 l0_0 (ji24)).f1).length c192_1)) (ds := []) m0_ s2_ rfl rfl ⟨(blk_cell BK189.out 0).trans rfl, (blk_cell BK189.out 1).trans rfl, (blk_cell BK187.out 0).trans rfl, ((HB.out.cell (World.block_lt_of_cell? w _ hw192_0)).trans hw192_0), ((HB.out.cell (World.block_lt_of_cell? w _ hw192_1)).trans hw192_1)⟩ (fun hHeld => ?_); refine with_tabW impl_ValidIndex.tab4 impl_ValidIndex.bits4 (fun HT_ HW_ => ?_)
 generalize w36.drew = w37 at BK187 BK189 HB HR192_1 hx192_0 hx192_1 hHeld ⊢
 refine pu_ 0 13 m1_ (any_of HT_.out s2_) ?_
 refine take_ (i := 1) (N := some 14) (v := ?_) (a' := ?_) m2_ rfl rfl (take_ofW HT_.out HW_.out s2_) (fun _ _ _ h => h) (Or.inl ⟨by rfl, ?_⟩) hHeld ?_ ?_
 rotate_left
 {
 rintro w' ⟨s0, s1, s2, s3, s4⟩
 go_simp
 with_reducible rfl}
 rotate_left
 · exact p1_
 refine one_ (i := 2) (N := some 15) m3_ rfl rfl (one_of HT_.out s2_) (by decide) (fun K hK => ?_)
 refine goes_ Try.func51 s2_ rfl #[.string ((rd_T63 l0_0 x8_1).f0)] (by rfl) rfl rfl s3_ ?_
 with_reducible refine (impl_wordOk.calls k1 ((rd_T63 l0_0 x8_1).f0) true _ A7.out).mono ?_
 rintro e w' ⟨rfl, ⟨nd, rfl⟩⟩
 refine ⟨_, rfl, ?_⟩
 refine hK.out _ _ ⟨(blk_cell BK189.out 0).trans rfl, (blk_cell BK189.out 1).trans rfl, (blk_cell BK187.out 0).trans rfl, ((HB.out.cell (World.block_lt_of_cell? w _ hw192_0)).trans hw192_0), ((HB.out.cell (World.block_lt_of_cell? w _ hw192_1)).trans hw192_1)⟩ (fun hHeld => ?_)
 clear hK K
 refine norm_ (a' := ?_) ?_ ?_
 rotate_left
 {
 show Act.put _ (some 15) _ = _
 simp only [Act.put, List.setIfInBounds_toArray, List.set_cons_zero, List.set_cons_succ, i64_w, i32_w]
 rfl}
 refine pu_ 3 16 m4_ (any_of HT_.out s2_) ?_
 refine pu_ 4 17 m5_ (any_of HT_.out s2_) ?_
 refine pu_ 5 18 m6_ (any_of HT_.out s2_) ?_
 refine take_ (i := 6) (N := some 19) (v := ?_) (a' := ?_) m7_ rfl rfl (take_ofW HT_.out HW_.out s2_) (fun _ _ _ h => h) (Or.inl ⟨by rfl, ?_⟩) hHeld ?_ ?_
 rotate_left
 {
 rintro w' ⟨s0, s1, s2, s3, s4⟩
 go_simp
 with_reducible rfl}
 rotate_left
 · exact p1_
 refine pu_ 7 20 m8_ (any_of HT_.out s2_) ?_
 refine pu_ 8 21 m9_ (any_of HT_.out s2_) ?_
 refine pu_ 9 22 m10_ (any_of HT_.out s2_) ?_
 refine pu_ 10 23 m11_ (any_of HT_.out s2_) ?_
 refine pu_ 11 24 m12_ (any_of HT_.out s2_) ?_
 refine take_ (i := 12) (N := some 25) (v := ?_) (a' := ?_) m13_ rfl rfl (take_ofW HT_.out HW_.out s2_) (fun _ _ _ h => h) (Or.inl ⟨by rfl, ?_⟩) hHeld ?_ ?_
 rotate_left
 {
 rintro w' ⟨s0, s1, s2, s3, s4⟩
 go_simp
 with_reducible rfl}
 rotate_left
 · exact p1_
 refine pu_ 13 26 m14_ (any_of HT_.out s2_) ?_
 refine pu_ 14 27 m15_ (any_of HT_.out s2_) ?_
 refine pu_ 15 28 m16_ (any_of HT_.out s2_) ?_
 refine pu_ 16 29 m17_ (any_of HT_.out s2_) ?_
 refine pu_ 17 30 m18_ (any_of HT_.out s2_) ?_
 refine take_ (i := 18) (N := some 31) (v := ?_) (a' := ?_) m19_ rfl rfl (take_ofW HT_.out HW_.out s2_) (fun _ _ _ h => h) (Or.inl ⟨by rfl, ?_⟩) hHeld ?_ ?_
 rotate_left
 {
 rintro w' ⟨s0, s1, s2, s3, s4⟩
 go_simp
 with_reducible rfl}
 rotate_left
 · exact p1_
 refine one_ (i := 19) (N := some 32) m20_ rfl rfl (one_of HT_.out s2_) (by decide) (fun K hK => ?_)
 refine goes_ Try.func52 s2_ rfl #[.slice A188_1 ((rd_T63 l0_0 x8_1).f1).length c188_1, .func (.func 53) #[] #[]] (by rfl) rfl rfl s3_ ?_
 with_reducible refine (impl_rising_v0.calls k1 _ _ ((rd_T63 l0_0 x8_1).f1)  true _ ?side1 ?side2 A21.out).mono ?_
 (case side1 => exact y2_ (Kd.C_below HR188_1.out (y1_ HB.out)))
 (case side2 => exact HC188_1.out)
 rintro e w' ⟨rfl, ⟨nd, rfl⟩⟩
 refine ⟨_, rfl, ?_⟩
 refine hK.out _ _ ⟨(blk_cell BK189.out 0).trans rfl, (blk_cell BK189.out 1).trans rfl, (blk_cell BK187.out 0).trans rfl, ((HB.out.cell (World.block_lt_of_cell? w _ hw192_0)).trans hw192_0), ((HB.out.cell (World.block_lt_of_cell? w _ hw192_1)).trans hw192_1)⟩ (fun hHeld => ?_)
 clear hK K
 refine norm_ (a' := ?_) ?_ ?_
 rotate_left
 {
 show Act.put _ (some 32) _ = _
 simp only [Act.put, List.setIfInBounds_toArray, List.set_cons_zero, List.set_cons_succ, i64_w, i32_w]
 rfl}
 refine pu_ 20 33 m21_ (any_of HT_.out s2_) ?_
 refine pu_ 21 34 m22_ (any_of HT_.out s2_) ?_
 refine pu_ 22 35 m23_ (any_of HT_.out s2_) ?_
 refine pu_ 23 36 m24_ (any_of HT_.out s2_) ?_
 refine pu_ 24 37 m25_ (any_of HT_.out s2_) ?_
 refine pu_ 25 38 m26_ (any_of HT_.out s2_) ?_
 refine pu_ 26 39 m27_ (any_of HT_.out s2_) ?_
 refine pu_ 28 41 m39_ (any_of HT_.out s2_) ?_
 refine pu_ 29 42 m40_ (any_of HT_.out s2_) ?_
 refine pu_ 33 46 m41_ (any_of HT_.out s2_) ?_
 refine take_ (i := 27) (N := some 40) (v := ?_) (a' := ?_) m42_ rfl rfl (take_ofW HT_.out HW_.out s2_) (fun _ _ _ h => h) (Or.inl ⟨by rfl, ?_⟩) hHeld ?_ ?_
 rotate_left
 {
 rintro w' ⟨s0, s1, s2, s3, s4⟩
 go_simp
 with_reducible rfl}
 rotate_left
 · exact p1_
 refine pu_ 30 43 m43_ (any_of HT_.out s2_) ?_
 refine pu_ 31 44 m44_ (any_of HT_.out s2_) ?_
 refine take_ (i := 32) (N := some 45) (v := ?_) (a' := ?_) m34_ rfl rfl (take_ofW HT_.out HW_.out s2_) (fun _ _ _ h => h) (Or.inl ⟨by rfl, ?_⟩) hHeld ?_ ?_
 rotate_left
 {
 rintro w' ⟨s0, s1, s2, s3, s4⟩
 go_simp
 with_reducible rfl}
 rotate_left
 · exact p1_
 refine take_ (i := 34) (N := some 47) (v := ?_) (a' := ?_) m35_ rfl rfl (take_ofW HT_.out HW_.out s2_) (fun _ _ _ h => h) (Or.inl ⟨by rfl, ?_⟩) hHeld ?_ ?_
 rotate_left
 {
 rintro w' ⟨s0, s1, s2, s3, s4⟩
 go_simp
 with_reducible rfl}
 rotate_left
 · exact p1_
 refine pu_ 35 48 m36_ (any_of HT_.out s2_) ?_
 refine pu_ 36 49 m37_ (any_of HT_.out s2_) ?_
 refine pu_ 37 50 m38_ (any_of HT_.out s2_) ?_
 refine done_ (done_of HT_.out s2_) ?_
 try go_wp2
 go_ret
 exact ⟨by first | rfl | (simp [errW_none, errW_some] <;> rfl) | (simp only [← hji24]; first | rfl | (simp [errW_none, errW_some] <;> rfl)) | (simp [*, errW_none, errW_some] <;> rfl), y1_ HB.out⟩}}
 {
 rw [if_neg c26] at H
 exact absurd H (by simp)}}
 {
 rw [if_neg c25] at H
 exact absurd H (by simp)}}
 {
 rw [if_neg c23] at H
 have c23b0 : decide (0 < x8_1) = false := decide_eq_false c23
 clear c23
 have H' := A_ H
 clear H
 have p188 : 0 ≤ (x8_1 : Int) := o1_
 have q188 : x8_1 < (l0_0.length : Int) := o1_
 obtain ⟨ad188, A188_1, c188_1, e188, hx188_0, hx188_1, hl188_1, hi188_1⟩ := at_T63 HR0_0.out x8_1 p188 q188
 cases e188
 replace hx188_0 := (HB.out.cell (World.block_lt_of_cell? w _ hx188_0)).trans hx188_0
 replace hx188_1 := (HB.out.cell (World.block_lt_of_cell? w _ hx188_1)).trans hx188_1
 have HR188_1 := A_ hi188_1
 have HC188_1 := A_ hl188_1
 clear hi188_1 hl188_1
 replace p188 := eq_true p188
 replace q188 := eq_true q188
 try go_wp2_with (first | ((with_reducible refine gate_dst (N := 4) rfl ?_); (try (refine gate_guard (by rfl) ?_; dsimp only)); refine bx_ 4 #[.string (⟨#[]⟩ : ByteArray), .slice none 0 0] 63 ?_; intro gb189 hg w38 hbox hb; have GW189 := b6_ hg HB; have GE189 := b6_ hg HB; have NB187_189 := b4_ hg BK187; have NB189_187 := b5_ hg BK187; replace BK187 := b3_ BK187 hb; replace HB := A_ (below_step (y1_ HB.out) hb); have BK189 := A_ (hbox); clear hb hbox hg; have hnb39 := NB189_187.out; have hnc39 := NB187_189.out; have hcz40_0 := c1_ BK189 0 (.string (⟨#[]⟩ : ByteArray)); have hcz40_1 := c1_ BK189 1 (.slice none 0 0); have hfz40_0 := f1_ BK189 0; have hfz40_1 := f1_ BK189 1))
 have n0_ : Aside0 (((w38.setCell ⟨gb189, 0, none⟩ (.string ((rd_T63 l0_0 x8_1).f0))).setCell ⟨gb189, 1, none⟩ (.slice A188_1 ((rd_T63 l0_0 x8_1).f1).length c188_1)).heap[gb187]? = some (.cells #[.slice (some ad188) l0_0.length c0_0] 29 (0, 0))) := ⟨by refine b1_ ?_; refine blk_far ?_ NB187_189.out _; refine b1_ ?_; refine blk_far ?_ NB187_189.out _; refine b1_ ?_; exact BK187.out⟩
 have n1_ : Aside0 (((w38.setCell ⟨gb189, 0, none⟩ (.string ((rd_T63 l0_0 x8_1).f0))).setCell ⟨gb189, 1, none⟩ (.slice A188_1 ((rd_T63 l0_0 x8_1).f1).length c188_1)).heap[gb189]? = some (.cells #[.string ((rd_T63 l0_0 x8_1).f0), .slice A188_1 ((rd_T63 l0_0 x8_1).f1).length c188_1] 63 (0, 0))) := ⟨by refine b1_ ?_; refine blk_put (cs := #[.string ((rd_T63 l0_0 x8_1).f0), .slice none 0 0]) ?_ 1 _ rfl; refine b1_ ?_; refine blk_put (cs := #[.string (⟨#[]⟩ : ByteArray), .slice none 0 0]) ?_ 0 _ rfl; refine b1_ ?_; exact BK189.out⟩
 have n2_ : Aside0 (Below w.heap.size w ((w38.setCell ⟨gb189, 0, none⟩ (.string ((rd_T63 l0_0 x8_1).f0))).setCell ⟨gb189, 1, none⟩ (.slice A188_1 ((rd_T63 l0_0 x8_1).f1).length c188_1))) := ⟨by repeat (first | (with_reducible first | exact HB.out | apply below_alloc | apply pw_below_drewN | apply below_drew1 | refine below_set ?_ GE189.out) | exact HB.out)⟩
 (try clear BK187)
 (try clear BK189)
 (try clear HB)
 generalize ((w38.setCell ⟨gb189, 0, none⟩ (.string ((rd_T63 l0_0 x8_1).f0))).setCell ⟨gb189, 1, none⟩ (.slice A188_1 ((rd_T63 l0_0 x8_1).f1).length c188_1)) = w41 at n0_ n1_ n2_ ⊢
 have BK187 := n0_
 have BK189 := n1_
 have HB := n2_
 clear n0_ n1_ n2_
 replace BK187 := A_ (blk_drew BK187.out)
 replace BK189 := A_ (blk_drew BK189.out)
 replace HB := A_ (below_drew1 HB.out)
 refine start_ (n := 38) (S := fun w' => w'.cell? ⟨gb189, 0, none⟩ = some (.string ((rd_T63 l0_0 x8_1).f0)) ∧ w'.cell? ⟨gb189, 1, none⟩ = some (.slice A188_1 ((rd_T63 l0_0 x8_1).f1).length c188_1)) (ds := []) m0_ s2_ rfl rfl ⟨(blk_cell BK189.out 0).trans rfl, (blk_cell BK189.out 1).trans rfl⟩ (fun hHeld => ?_); refine with_tabW impl_ValidIndex.tab4 impl_ValidIndex.bits4 (fun HT_ HW_ => ?_)
 generalize w41.drew = w42 at BK187 BK189 HB hHeld ⊢
 refine pu_ 0 13 m1_ (any_of HT_.out s2_) ?_
 refine take_ (i := 1) (N := some 14) (v := ?_) (a' := ?_) m2_ rfl rfl (take_ofW HT_.out HW_.out s2_) (fun _ _ _ h => h) (Or.inl ⟨by rfl, ?_⟩) hHeld ?_ ?_
 rotate_left
 {
 rintro w' ⟨s0, s1⟩
 go_simp
 with_reducible rfl}
 rotate_left
 · exact p1_
 refine one_ (i := 2) (N := some 15) m3_ rfl rfl (one_of HT_.out s2_) (by decide) (fun K hK => ?_)
 refine goes_ Try.func51 s2_ rfl #[.string ((rd_T63 l0_0 x8_1).f0)] (by rfl) rfl rfl s3_ ?_
 with_reducible refine (impl_wordOk.calls k1 ((rd_T63 l0_0 x8_1).f0) true _ A7.out).mono ?_
 rintro e w' ⟨rfl, ⟨nd, rfl⟩⟩
 refine ⟨_, rfl, ?_⟩
 refine hK.out _ _ ⟨(blk_cell BK189.out 0).trans rfl, (blk_cell BK189.out 1).trans rfl⟩ (fun hHeld => ?_)
 clear hK K
 refine norm_ (a' := ?_) ?_ ?_
 rotate_left
 {
 show Act.put _ (some 15) _ = _
 simp only [Act.put, List.setIfInBounds_toArray, List.set_cons_zero, List.set_cons_succ, i64_w, i32_w]
 rfl}
 refine pu_ 3 16 m4_ (any_of HT_.out s2_) ?_
 refine pu_ 4 17 m5_ (any_of HT_.out s2_) ?_
 refine pu_ 5 18 m6_ (any_of HT_.out s2_) ?_
 refine take_ (i := 6) (N := some 19) (v := ?_) (a' := ?_) m7_ rfl rfl (take_ofW HT_.out HW_.out s2_) (fun _ _ _ h => h) (Or.inl ⟨by rfl, ?_⟩) hHeld ?_ ?_
 rotate_left
 {
 rintro w' ⟨s0, s1⟩
 go_simp
 with_reducible rfl}
 rotate_left
 · exact p1_
 refine pu_ 7 20 m8_ (any_of HT_.out s2_) ?_
 refine pu_ 8 21 m9_ (any_of HT_.out s2_) ?_
 refine pu_ 9 22 m10_ (any_of HT_.out s2_) ?_
 refine pu_ 10 23 m11_ (any_of HT_.out s2_) ?_
 refine pu_ 11 24 m12_ (any_of HT_.out s2_) ?_
 refine take_ (i := 12) (N := some 25) (v := ?_) (a' := ?_) m13_ rfl rfl (take_ofW HT_.out HW_.out s2_) (fun _ _ _ h => h) (Or.inl ⟨by rfl, ?_⟩) hHeld ?_ ?_
 rotate_left
 {
 rintro w' ⟨s0, s1⟩
 go_simp
 with_reducible rfl}
 rotate_left
 · exact p1_
 refine pu_ 13 26 m14_ (any_of HT_.out s2_) ?_
 refine pu_ 14 27 m15_ (any_of HT_.out s2_) ?_
 refine pu_ 15 28 m16_ (any_of HT_.out s2_) ?_
 refine pu_ 16 29 m17_ (any_of HT_.out s2_) ?_
 refine pu_ 17 30 m18_ (any_of HT_.out s2_) ?_
 refine take_ (i := 18) (N := some 31) (v := ?_) (a' := ?_) m19_ rfl rfl (take_ofW HT_.out HW_.out s2_) (fun _ _ _ h => h) (Or.inl ⟨by rfl, ?_⟩) hHeld ?_ ?_
 rotate_left
 {
 rintro w' ⟨s0, s1⟩
 go_simp
 with_reducible rfl}
 rotate_left
 · exact p1_
 refine one_ (i := 19) (N := some 32) m20_ rfl rfl (one_of HT_.out s2_) (by decide) (fun K hK => ?_)
 refine goes_ Try.func52 s2_ rfl #[.slice A188_1 ((rd_T63 l0_0 x8_1).f1).length c188_1, .func (.func 53) #[] #[]] (by rfl) rfl rfl s3_ ?_
 with_reducible refine (impl_rising_v0.calls k1 _ _ ((rd_T63 l0_0 x8_1).f1)  true _ ?side1 ?side2 A21.out).mono ?_
 (case side1 => exact y2_ (Kd.C_below HR188_1.out (y1_ HB.out)))
 (case side2 => exact HC188_1.out)
 rintro e w' ⟨rfl, ⟨nd, rfl⟩⟩
 refine ⟨_, rfl, ?_⟩
 refine hK.out _ _ ⟨(blk_cell BK189.out 0).trans rfl, (blk_cell BK189.out 1).trans rfl⟩ (fun hHeld => ?_)
 clear hK K
 refine norm_ (a' := ?_) ?_ ?_
 rotate_left
 {
 show Act.put _ (some 32) _ = _
 simp only [Act.put, List.setIfInBounds_toArray, List.set_cons_zero, List.set_cons_succ, i64_w, i32_w]
 rfl}
 refine pu_ 20 33 m21_ (any_of HT_.out s2_) ?_
 refine pu_ 21 34 m22_ (any_of HT_.out s2_) ?_
 refine pu_ 22 35 m23_ (any_of HT_.out s2_) ?_
 refine pu_ 23 36 m24_ (any_of HT_.out s2_) ?_
 refine pu_ 24 37 m25_ (any_of HT_.out s2_) ?_
 refine pu_ 25 38 m26_ (any_of HT_.out s2_) ?_
 refine pn_ 26 39 m27_ (any_of HT_.out s2_) ?_
 refine pn_ 27 40 m28_ (any_of HT_.out s2_) ?_
 refine pn_ 28 41 m29_ (any_of HT_.out s2_) ?_
 refine pn_ 29 42 m30_ (any_of HT_.out s2_) ?_
 refine pn_ 30 43 m31_ (any_of HT_.out s2_) ?_
 refine pn_ 31 44 m32_ (any_of HT_.out s2_) ?_
 refine pn_ 32 45 m33_ (any_of HT_.out s2_) ?_
 refine pn_ 33 46 m34_ (any_of HT_.out s2_) ?_
 refine pn_ 34 47 m35_ (any_of HT_.out s2_) ?_
 refine pn_ 35 48 m36_ (any_of HT_.out s2_) ?_
 refine pu_ 36 49 m37_ (any_of HT_.out s2_) ?_
 refine pu_ 37 50 m38_ (any_of HT_.out s2_) ?_
 refine done_ (done_of HT_.out s2_) ?_
 try go_wp2
 go_roundg k1
 case measure => have := HK1.out; omega
 case rel => exact ⟨(wrap64 (x8_1 + 1)), s1_, H', ⟨by have := HK1.out; omega⟩, ⟨b1_ BK187.out⟩, ⟨y1_ HB.out⟩⟩}}
 {
 replace c22 := Bool.eq_false_iff.mpr c22
 subst c22
 have H1 : (some false) = some r := by rw [if_neg (show ¬ (false = true) by decide)] at H; exact H
 clear H
 have H := H1
 clear H1
 obtain rfl := Option.some.inj H
 have p188 : 0 ≤ (x8_1 : Int) := o1_
 have q188 : x8_1 < (l0_0.length : Int) := o1_
 obtain ⟨ad188, A188_1, c188_1, e188, hx188_0, hx188_1, hl188_1, hi188_1⟩ := at_T63 HR0_0.out x8_1 p188 q188
 cases e188
 replace hx188_0 := (HB.out.cell (World.block_lt_of_cell? w _ hx188_0)).trans hx188_0
 replace hx188_1 := (HB.out.cell (World.block_lt_of_cell? w _ hx188_1)).trans hx188_1
 have HR188_1 := A_ hi188_1
 have HC188_1 := A_ hl188_1
 clear hi188_1 hl188_1
 replace p188 := eq_true p188
 replace q188 := eq_true q188
 try go_wp2_with (first | ((with_reducible refine gate_dst (N := 4) rfl ?_); (try (refine gate_guard (by rfl) ?_; dsimp only)); refine bx_ 4 #[.string (⟨#[]⟩ : ByteArray), .slice none 0 0] 63 ?_; intro gb189 hg w43 hbox hb; have GW189 := b6_ hg HB; have GE189 := b6_ hg HB; have NB187_189 := b4_ hg BK187; have NB189_187 := b5_ hg BK187; replace BK187 := b3_ BK187 hb; replace HB := A_ (below_step (y1_ HB.out) hb); have BK189 := A_ (hbox); clear hb hbox hg; have hnb44 := NB189_187.out; have hnc44 := NB187_189.out; have hcz45_0 := c1_ BK189 0 (.string (⟨#[]⟩ : ByteArray)); have hcz45_1 := c1_ BK189 1 (.slice none 0 0); have hfz45_0 := f1_ BK189 0; have hfz45_1 := f1_ BK189 1))
 have n0_ : Aside0 (((w43.setCell ⟨gb189, 0, none⟩ (.string ((rd_T63 l0_0 x8_1).f0))).setCell ⟨gb189, 1, none⟩ (.slice A188_1 ((rd_T63 l0_0 x8_1).f1).length c188_1)).heap[gb187]? = some (.cells #[.slice (some ad188) l0_0.length c0_0] 29 (0, 0))) := ⟨by refine b1_ ?_; refine blk_far ?_ NB187_189.out _; refine b1_ ?_; refine blk_far ?_ NB187_189.out _; refine b1_ ?_; exact BK187.out⟩
 have n1_ : Aside0 (((w43.setCell ⟨gb189, 0, none⟩ (.string ((rd_T63 l0_0 x8_1).f0))).setCell ⟨gb189, 1, none⟩ (.slice A188_1 ((rd_T63 l0_0 x8_1).f1).length c188_1)).heap[gb189]? = some (.cells #[.string ((rd_T63 l0_0 x8_1).f0), .slice A188_1 ((rd_T63 l0_0 x8_1).f1).length c188_1] 63 (0, 0))) := ⟨by refine b1_ ?_; refine blk_put (cs := #[.string ((rd_T63 l0_0 x8_1).f0), .slice none 0 0]) ?_ 1 _ rfl; refine b1_ ?_; refine blk_put (cs := #[.string (⟨#[]⟩ : ByteArray), .slice none 0 0]) ?_ 0 _ rfl; refine b1_ ?_; exact BK189.out⟩
 have n2_ : Aside0 (Below w.heap.size w ((w43.setCell ⟨gb189, 0, none⟩ (.string ((rd_T63 l0_0 x8_1).f0))).setCell ⟨gb189, 1, none⟩ (.slice A188_1 ((rd_T63 l0_0 x8_1).f1).length c188_1))) := ⟨by repeat (first | (with_reducible first | exact HB.out | apply below_alloc | apply pw_below_drewN | apply below_drew1 | refine below_set ?_ GE189.out) | exact HB.out)⟩
 (try clear BK187)
 (try clear BK189)
 (try clear HB)
 generalize ((w43.setCell ⟨gb189, 0, none⟩ (.string ((rd_T63 l0_0 x8_1).f0))).setCell ⟨gb189, 1, none⟩ (.slice A188_1 ((rd_T63 l0_0 x8_1).f1).length c188_1)) = w46 at n0_ n1_ n2_ ⊢
 have BK187 := n0_
 have BK189 := n1_
 have HB := n2_
 clear n0_ n1_ n2_
 replace BK187 := A_ (blk_drew BK187.out)
 replace BK189 := A_ (blk_drew BK189.out)
 replace HB := A_ (below_drew1 HB.out)
 refine start_ (n := 38) (S := fun w' => w'.cell? ⟨gb189, 0, none⟩ = some (.string ((rd_T63 l0_0 x8_1).f0)) ∧ w'.cell? ⟨gb189, 1, none⟩ = some (.slice A188_1 ((rd_T63 l0_0 x8_1).f1).length c188_1)) (ds := []) m0_ s2_ rfl rfl ⟨(blk_cell BK189.out 0).trans rfl, (blk_cell BK189.out 1).trans rfl⟩ (fun hHeld => ?_); refine with_tabW impl_ValidIndex.tab4 impl_ValidIndex.bits4 (fun HT_ HW_ => ?_)
 generalize w46.drew = w47 at BK187 BK189 HB hHeld ⊢
 refine pu_ 0 13 m1_ (any_of HT_.out s2_) ?_
 refine take_ (i := 1) (N := some 14) (v := ?_) (a' := ?_) m2_ rfl rfl (take_ofW HT_.out HW_.out s2_) (fun _ _ _ h => h) (Or.inl ⟨by rfl, ?_⟩) hHeld ?_ ?_
 rotate_left
 {
 rintro w' ⟨s0, s1⟩
 go_simp
 with_reducible rfl}
 rotate_left
 · exact p1_
 refine one_ (i := 2) (N := some 15) m3_ rfl rfl (one_of HT_.out s2_) (by decide) (fun K hK => ?_)
 refine goes_ Try.func51 s2_ rfl #[.string ((rd_T63 l0_0 x8_1).f0)] (by rfl) rfl rfl s3_ ?_
 with_reducible refine (impl_wordOk.calls k1 ((rd_T63 l0_0 x8_1).f0) true _ A7.out).mono ?_
 rintro e w' ⟨rfl, ⟨nd, rfl⟩⟩
 refine ⟨_, rfl, ?_⟩
 refine hK.out _ _ ⟨(blk_cell BK189.out 0).trans rfl, (blk_cell BK189.out 1).trans rfl⟩ (fun hHeld => ?_)
 clear hK K
 refine norm_ (a' := ?_) ?_ ?_
 rotate_left
 {
 show Act.put _ (some 15) _ = _
 simp only [Act.put, List.setIfInBounds_toArray, List.set_cons_zero, List.set_cons_succ, i64_w, i32_w]
 rfl}
 refine pu_ 3 16 m4_ (any_of HT_.out s2_) ?_
 refine pu_ 4 17 m5_ (any_of HT_.out s2_) ?_
 refine pu_ 5 18 m6_ (any_of HT_.out s2_) ?_
 refine take_ (i := 6) (N := some 19) (v := ?_) (a' := ?_) m7_ rfl rfl (take_ofW HT_.out HW_.out s2_) (fun _ _ _ h => h) (Or.inl ⟨by rfl, ?_⟩) hHeld ?_ ?_
 rotate_left
 {
 rintro w' ⟨s0, s1⟩
 go_simp
 with_reducible rfl}
 rotate_left
 · exact p1_
 refine pu_ 7 20 m8_ (any_of HT_.out s2_) ?_
 refine pu_ 8 21 m9_ (any_of HT_.out s2_) ?_
 refine pu_ 9 22 m10_ (any_of HT_.out s2_) ?_
 refine pu_ 10 23 m11_ (any_of HT_.out s2_) ?_
 refine pu_ 11 24 m12_ (any_of HT_.out s2_) ?_
 refine take_ (i := 12) (N := some 25) (v := ?_) (a' := ?_) m13_ rfl rfl (take_ofW HT_.out HW_.out s2_) (fun _ _ _ h => h) (Or.inl ⟨by rfl, ?_⟩) hHeld ?_ ?_
 rotate_left
 {
 rintro w' ⟨s0, s1⟩
 go_simp
 with_reducible rfl}
 rotate_left
 · exact p1_
 refine pu_ 13 26 m14_ (any_of HT_.out s2_) ?_
 refine pu_ 14 27 m15_ (any_of HT_.out s2_) ?_
 refine pu_ 15 28 m16_ (any_of HT_.out s2_) ?_
 refine pu_ 16 29 m17_ (any_of HT_.out s2_) ?_
 refine pu_ 17 30 m18_ (any_of HT_.out s2_) ?_
 refine take_ (i := 18) (N := some 31) (v := ?_) (a' := ?_) m19_ rfl rfl (take_ofW HT_.out HW_.out s2_) (fun _ _ _ h => h) (Or.inl ⟨by rfl, ?_⟩) hHeld ?_ ?_
 rotate_left
 {
 rintro w' ⟨s0, s1⟩
 go_simp
 with_reducible rfl}
 rotate_left
 · exact p1_
 refine one_ (i := 19) (N := some 32) m20_ rfl rfl (one_of HT_.out s2_) (by decide) (fun K hK => ?_)
 refine goes_ Try.func52 s2_ rfl #[.slice A188_1 ((rd_T63 l0_0 x8_1).f1).length c188_1, .func (.func 53) #[] #[]] (by rfl) rfl rfl s3_ ?_
 with_reducible refine (impl_rising_v0.calls k1 _ _ ((rd_T63 l0_0 x8_1).f1)  false _ ?side1 ?side2 A21.out).mono ?_
 (case side1 => exact y2_ (Kd.C_below HR188_1.out (y1_ HB.out)))
 (case side2 => exact HC188_1.out)
 rintro e w' ⟨rfl, ⟨nd, rfl⟩⟩
 refine ⟨_, rfl, ?_⟩
 refine hK.out _ _ ⟨(blk_cell BK189.out 0).trans rfl, (blk_cell BK189.out 1).trans rfl⟩ (fun hHeld => ?_)
 clear hK K
 refine norm_ (a' := ?_) ?_ ?_
 rotate_left
 {
 show Act.put _ (some 32) _ = _
 simp only [Act.put, List.setIfInBounds_toArray, List.set_cons_zero, List.set_cons_succ, i64_w, i32_w]
 rfl}
 refine pu_ 20 33 m21_ (any_of HT_.out s2_) ?_
 refine pu_ 21 34 m22_ (any_of HT_.out s2_) ?_
 refine pu_ 22 35 m23_ (any_of HT_.out s2_) ?_
 refine pn_ 23 36 m24_ (any_of HT_.out s2_) ?_
 refine pn_ 24 37 m25_ (any_of HT_.out s2_) ?_
 refine pn_ 25 38 m26_ (any_of HT_.out s2_) ?_
 refine pn_ 26 39 m27_ (any_of HT_.out s2_) ?_
 refine pn_ 27 40 m28_ (any_of HT_.out s2_) ?_
 refine pn_ 28 41 m29_ (any_of HT_.out s2_) ?_
 refine pn_ 29 42 m30_ (any_of HT_.out s2_) ?_
 refine pn_ 30 43 m31_ (any_of HT_.out s2_) ?_
 refine pn_ 31 44 m32_ (any_of HT_.out s2_) ?_
 refine pn_ 32 45 m33_ (any_of HT_.out s2_) ?_
 refine pn_ 33 46 m34_ (any_of HT_.out s2_) ?_
 refine pn_ 34 47 m35_ (any_of HT_.out s2_) ?_
 refine pn_ 35 48 m36_ (any_of HT_.out s2_) ?_
 refine pn_ 36 49 m37_ (any_of HT_.out s2_) ?_
 refine pu_ 37 50 m38_ (any_of HT_.out s2_) ?_
 refine done_ (done_of HT_.out s2_) ?_
 try go_wp2
 go_ret
 exact ⟨e1_, y1_ HB.out⟩}}}}
 {
 replace c8 := Bool.eq_false_iff.mpr c8
 subst c8
 have H1 : (some false) = some r := by rw [if_neg (show ¬ (false = true) by decide)] at H; exact H
 clear H
 have H := H1
 clear H1
 obtain rfl := Option.some.inj H
 have p188 : 0 ≤ (x8_1 : Int) := o1_
 have q188 : x8_1 < (l0_0.length : Int) := o1_
 obtain ⟨ad188, A188_1, c188_1, e188, hx188_0, hx188_1, hl188_1, hi188_1⟩ := at_T63 HR0_0.out x8_1 p188 q188
 cases e188
 replace hx188_0 := (HB.out.cell (World.block_lt_of_cell? w _ hx188_0)).trans hx188_0
 replace hx188_1 := (HB.out.cell (World.block_lt_of_cell? w _ hx188_1)).trans hx188_1
 have HR188_1 := A_ hi188_1
 have HC188_1 := A_ hl188_1
 clear hi188_1 hl188_1
 replace p188 := eq_true p188
 replace q188 := eq_true q188
 try go_wp2_with (first | ((with_reducible refine gate_dst (N := 4) rfl ?_); (try (refine gate_guard (by rfl) ?_; dsimp only)); refine bx_ 4 #[.string (⟨#[]⟩ : ByteArray), .slice none 0 0] 63 ?_; intro gb189 hg w48 hbox hb; have GW189 := b6_ hg HB; have GE189 := b6_ hg HB; have NB187_189 := b4_ hg BK187; have NB189_187 := b5_ hg BK187; replace BK187 := b3_ BK187 hb; replace HB := A_ (below_step (y1_ HB.out) hb); have BK189 := A_ (hbox); clear hb hbox hg; have hnb49 := NB189_187.out; have hnc49 := NB187_189.out; have hcz50_0 := c1_ BK189 0 (.string (⟨#[]⟩ : ByteArray)); have hcz50_1 := c1_ BK189 1 (.slice none 0 0); have hfz50_0 := f1_ BK189 0; have hfz50_1 := f1_ BK189 1))
 have n0_ : Aside0 (((w48.setCell ⟨gb189, 0, none⟩ (.string ((rd_T63 l0_0 x8_1).f0))).setCell ⟨gb189, 1, none⟩ (.slice A188_1 ((rd_T63 l0_0 x8_1).f1).length c188_1)).heap[gb187]? = some (.cells #[.slice (some ad188) l0_0.length c0_0] 29 (0, 0))) := ⟨by refine b1_ ?_; refine blk_far ?_ NB187_189.out _; refine b1_ ?_; refine blk_far ?_ NB187_189.out _; refine b1_ ?_; exact BK187.out⟩
 have n1_ : Aside0 (((w48.setCell ⟨gb189, 0, none⟩ (.string ((rd_T63 l0_0 x8_1).f0))).setCell ⟨gb189, 1, none⟩ (.slice A188_1 ((rd_T63 l0_0 x8_1).f1).length c188_1)).heap[gb189]? = some (.cells #[.string ((rd_T63 l0_0 x8_1).f0), .slice A188_1 ((rd_T63 l0_0 x8_1).f1).length c188_1] 63 (0, 0))) := ⟨by refine b1_ ?_; refine blk_put (cs := #[.string ((rd_T63 l0_0 x8_1).f0), .slice none 0 0]) ?_ 1 _ rfl; refine b1_ ?_; refine blk_put (cs := #[.string (⟨#[]⟩ : ByteArray), .slice none 0 0]) ?_ 0 _ rfl; refine b1_ ?_; exact BK189.out⟩
 have n2_ : Aside0 (Below w.heap.size w ((w48.setCell ⟨gb189, 0, none⟩ (.string ((rd_T63 l0_0 x8_1).f0))).setCell ⟨gb189, 1, none⟩ (.slice A188_1 ((rd_T63 l0_0 x8_1).f1).length c188_1))) := ⟨by repeat (first | (with_reducible first | exact HB.out | apply below_alloc | apply pw_below_drewN | apply below_drew1 | refine below_set ?_ GE189.out) | exact HB.out)⟩
 (try clear BK187)
 (try clear BK189)
 (try clear HB)
 generalize ((w48.setCell ⟨gb189, 0, none⟩ (.string ((rd_T63 l0_0 x8_1).f0))).setCell ⟨gb189, 1, none⟩ (.slice A188_1 ((rd_T63 l0_0 x8_1).f1).length c188_1)) = w51 at n0_ n1_ n2_ ⊢
 have BK187 := n0_
 have BK189 := n1_
 have HB := n2_
 clear n0_ n1_ n2_
 replace BK187 := A_ (blk_drew BK187.out)
 replace BK189 := A_ (blk_drew BK189.out)
 replace HB := A_ (below_drew1 HB.out)
 refine start_ (n := 38) (S := fun w' => w'.cell? ⟨gb189, 0, none⟩ = some (.string ((rd_T63 l0_0 x8_1).f0)) ∧ w'.cell? ⟨gb189, 1, none⟩ = some (.slice A188_1 ((rd_T63 l0_0 x8_1).f1).length c188_1)) (ds := []) m0_ s2_ rfl rfl ⟨(blk_cell BK189.out 0).trans rfl, (blk_cell BK189.out 1).trans rfl⟩ (fun hHeld => ?_); refine with_tabW impl_ValidIndex.tab4 impl_ValidIndex.bits4 (fun HT_ HW_ => ?_)
 generalize w51.drew = w52 at BK187 BK189 HB hHeld ⊢
 refine pu_ 0 13 m1_ (any_of HT_.out s2_) ?_
 refine take_ (i := 1) (N := some 14) (v := ?_) (a' := ?_) m2_ rfl rfl (take_ofW HT_.out HW_.out s2_) (fun _ _ _ h => h) (Or.inl ⟨by rfl, ?_⟩) hHeld ?_ ?_
 rotate_left
 {
 rintro w' ⟨s0, s1⟩
 go_simp
 with_reducible rfl}
 rotate_left
 · exact p1_
 refine one_ (i := 2) (N := some 15) m3_ rfl rfl (one_of HT_.out s2_) (by decide) (fun K hK => ?_)
 refine goes_ Try.func51 s2_ rfl #[.string ((rd_T63 l0_0 x8_1).f0)] (by rfl) rfl rfl s3_ ?_
 with_reducible refine (impl_wordOk.calls k1 ((rd_T63 l0_0 x8_1).f0) false _ A7.out).mono ?_
 rintro e w' ⟨rfl, ⟨nd, rfl⟩⟩
 refine ⟨_, rfl, ?_⟩
 refine hK.out _ _ ⟨(blk_cell BK189.out 0).trans rfl, (blk_cell BK189.out 1).trans rfl⟩ (fun hHeld => ?_)
 clear hK K
 refine norm_ (a' := ?_) ?_ ?_
 rotate_left
 {
 show Act.put _ (some 15) _ = _
 simp only [Act.put, List.setIfInBounds_toArray, List.set_cons_zero, List.set_cons_succ, i64_w, i32_w]
 rfl}
 refine pu_ 3 16 m4_ (any_of HT_.out s2_) ?_
 refine pu_ 4 17 m5_ (any_of HT_.out s2_) ?_
 refine pn_ 5 18 m6_ (any_of HT_.out s2_) ?_
 refine pn_ 6 19 m7_ (any_of HT_.out s2_) ?_
 refine pn_ 7 20 m8_ (any_of HT_.out s2_) ?_
 refine pn_ 8 21 m9_ (any_of HT_.out s2_) ?_
 refine pu_ 9 22 m10_ (any_of HT_.out s2_) ?_
 refine pu_ 10 23 m11_ (any_of HT_.out s2_) ?_
 refine pn_ 11 24 m12_ (any_of HT_.out s2_) ?_
 refine pn_ 12 25 m13_ (any_of HT_.out s2_) ?_
 refine pn_ 13 26 m14_ (any_of HT_.out s2_) ?_
 refine pn_ 14 27 m15_ (any_of HT_.out s2_) ?_
 refine pu_ 15 28 m16_ (any_of HT_.out s2_) ?_
 refine pu_ 16 29 m17_ (any_of HT_.out s2_) ?_
 refine pn_ 17 30 m18_ (any_of HT_.out s2_) ?_
 refine pn_ 18 31 m19_ (any_of HT_.out s2_) ?_
 refine pn_ 19 32 m20_ (any_of HT_.out s2_) ?_
 refine pn_ 20 33 m21_ (any_of HT_.out s2_) ?_
 refine pu_ 21 34 m22_ (any_of HT_.out s2_) ?_
 refine pu_ 22 35 m23_ (any_of HT_.out s2_) ?_
 refine pn_ 23 36 m24_ (any_of HT_.out s2_) ?_
 refine pn_ 24 37 m25_ (any_of HT_.out s2_) ?_
 refine pn_ 25 38 m26_ (any_of HT_.out s2_) ?_
 refine pn_ 26 39 m27_ (any_of HT_.out s2_) ?_
 refine pn_ 27 40 m28_ (any_of HT_.out s2_) ?_
 refine pn_ 28 41 m29_ (any_of HT_.out s2_) ?_
 refine pn_ 29 42 m30_ (any_of HT_.out s2_) ?_
 refine pn_ 30 43 m31_ (any_of HT_.out s2_) ?_
 refine pn_ 31 44 m32_ (any_of HT_.out s2_) ?_
 refine pn_ 32 45 m33_ (any_of HT_.out s2_) ?_
 refine pn_ 33 46 m34_ (any_of HT_.out s2_) ?_
 refine pn_ 34 47 m35_ (any_of HT_.out s2_) ?_
 refine pn_ 35 48 m36_ (any_of HT_.out s2_) ?_
 refine pn_ 36 49 m37_ (any_of HT_.out s2_) ?_
 refine pu_ 37 50 m38_ (any_of HT_.out s2_) ?_
 refine done_ (done_of HT_.out s2_) ?_
 try go_wp2
 go_ret
 exact ⟨e1_, y1_ HB.out⟩}}
 {
 rw [if_neg c6] at H
 exact absurd H (by simp)}}
 {
 rw [if_neg c5] at H
 exact absurd H (by simp)}}
 {
 rw [if_neg c4] at H
 have c4b0 : decide (x8_1 < (l0_0.length : Int)) = false := decide_eq_false c4
 clear c4
 obtain rfl := Option.some.inj H
 go_wp2
 go_ret
 exact ⟨e1_, y1_ HB.out⟩}}}

end Go.Proofs.Ytcnhepjdibbkgaa.QFnExactDropFrom
