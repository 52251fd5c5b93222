-- written by a program of this session, on the lines of the kit's print
import Derived.Test.YtgfilednbllkmaaQFnJoinedPresencex0
import Derived.Test.YtgfilednbllkmaaQFnJoinedPresencex3
import Derived.Test.YtgfilednbllkmaaQFnJoinedPresencex5
namespace Go.Proofs.Ytgfilednbllkmaa.QFnJoinedPresence
open Go.RowKit Go.Proofs.YtgfilednbllkmaaW.PrintWords Go.Proofs.YtgfilednbllkmaaW.PrintLast Go.Proofs.YtgfilednbllkmaaW.PrintMore
attribute [local go_sem] max2_int min2_int max_two min_two max_three min_three max_four min_four   -- for this text's walks alone
set_option linter.unusedVariables false
set_option linter.unusedSimpArgs false

/-! ### spec_l05Leases: function 100 -/
abbrev spec_l05Leases.T : Bool := true
abbrev spec_l05Leases.F : Bool := false
abbrev spec_l05Leases.m0_ : Array Bool := #[F,F,F,F,F,F,F,F,F,F,F,F,F,F,F,F,F,F,F,F,F,F,F,F,F,F,F,F,F,F,F,F,F,F]
abbrev spec_l05Leases.m1_ : Array Bool := #[T,F,F,F,F,F,F,F,F,F,F,F,F,F,F,F,F,F,F,F,F,F,F,F,F,F,F,F,F,F,F,F,F,F]
abbrev spec_l05Leases.m2_ : Array Bool := #[T,T,F,F,F,F,F,F,F,F,F,F,F,F,F,F,F,F,F,F,F,F,F,F,F,F,F,F,F,F,F,F,F,F]
abbrev spec_l05Leases.m3_ : Array Bool := #[T,T,T,F,F,F,F,F,F,F,F,F,F,F,F,F,F,F,F,F,F,F,F,F,F,F,F,F,F,F,F,F,F,F]
abbrev spec_l05Leases.m4_ : Array Bool := #[T,T,T,T,F,F,F,F,F,F,F,F,F,F,F,F,F,F,F,F,F,F,F,F,F,F,F,F,F,F,F,F,F,F]
abbrev spec_l05Leases.m5_ : Array Bool := #[T,T,T,T,T,F,F,F,F,F,F,F,F,F,F,F,F,F,F,F,F,F,F,F,F,F,F,F,F,F,F,F,F,F]
abbrev spec_l05Leases.m6_ : Array Bool := #[T,T,T,T,T,T,F,F,F,F,F,F,F,F,F,F,F,F,F,F,F,F,F,F,F,F,F,F,F,F,F,F,F,F]
abbrev spec_l05Leases.m7_ : Array Bool := #[T,T,T,T,T,T,T,F,F,F,F,F,F,F,F,F,F,F,F,F,F,F,F,F,F,F,F,F,F,F,F,F,F,F]
abbrev spec_l05Leases.m8_ : Array Bool := #[T,T,T,T,T,T,T,T,F,F,F,F,F,F,F,F,F,F,F,F,F,F,F,F,F,F,F,F,F,F,F,F,F,F]
abbrev spec_l05Leases.m9_ : Array Bool := #[T,T,T,T,T,T,T,T,T,F,F,F,F,F,F,F,F,F,F,F,F,F,F,F,F,F,F,F,F,F,F,F,F,F]
abbrev spec_l05Leases.m10_ : Array Bool := #[T,T,T,T,T,T,T,T,T,T,F,F,F,F,F,F,F,F,F,F,F,F,F,F,F,F,F,F,F,F,F,F,F,F]
abbrev spec_l05Leases.m11_ : Array Bool := #[T,T,T,T,T,T,T,T,T,T,T,F,F,F,F,F,F,F,F,F,F,F,F,F,F,F,F,F,F,F,F,F,F,F]
abbrev spec_l05Leases.m12_ : Array Bool := #[T,T,T,T,T,T,T,T,T,T,T,T,F,F,F,F,F,F,F,F,F,F,F,F,F,F,F,F,F,F,F,F,F,F]
abbrev spec_l05Leases.m13_ : Array Bool := #[T,T,T,T,T,T,T,T,T,T,T,T,T,F,F,F,F,F,F,F,F,F,F,F,F,F,F,F,F,F,F,F,F,F]
abbrev spec_l05Leases.m14_ : Array Bool := #[T,T,T,T,T,T,T,T,T,T,T,T,T,T,F,F,F,F,F,F,F,F,F,F,F,F,F,F,F,F,F,F,F,F]
abbrev spec_l05Leases.m15_ : Array Bool := #[T,T,T,T,T,T,T,T,T,T,T,T,T,T,T,F,F,F,F,F,F,F,F,F,F,F,F,F,F,F,F,F,F,F]
abbrev spec_l05Leases.m16_ : Array Bool := #[T,T,T,T,T,T,T,T,T,T,T,T,T,T,T,T,F,F,F,F,F,F,F,F,F,F,F,F,F,F,F,F,F,F]
abbrev spec_l05Leases.m17_ : Array Bool := #[T,T,T,T,T,T,T,T,T,T,T,T,T,T,T,T,T,F,F,F,F,F,F,F,F,F,F,F,F,F,F,F,F,F]
abbrev spec_l05Leases.m18_ : Array Bool := #[T,T,T,T,T,T,T,T,T,T,T,T,T,T,T,T,T,T,F,F,F,F,F,F,F,F,F,F,F,F,F,F,F,F]
abbrev spec_l05Leases.m19_ : Array Bool := #[T,T,T,T,T,T,T,T,T,T,T,T,T,T,T,T,T,T,T,F,F,F,F,F,F,F,F,F,F,F,F,F,F,F]
abbrev spec_l05Leases.m20_ : Array Bool := #[T,T,T,T,T,T,T,T,T,T,T,T,T,T,T,T,T,T,T,T,F,F,F,F,F,F,F,F,F,F,F,F,F,F]
abbrev spec_l05Leases.m21_ : Array Bool := #[T,T,T,T,T,T,T,T,T,T,T,T,T,T,T,T,T,T,T,T,T,F,F,F,F,F,F,F,F,F,F,F,F,F]
abbrev spec_l05Leases.m22_ : Array Bool := #[T,T,T,T,T,T,T,T,T,T,T,T,T,T,T,T,T,T,T,T,T,T,F,F,F,F,F,F,F,F,F,F,F,F]
abbrev spec_l05Leases.m23_ : Array Bool := #[T,T,T,T,T,T,T,T,T,T,T,T,T,T,T,T,T,T,T,T,T,T,T,F,F,F,F,F,F,F,F,F,F,F]
abbrev spec_l05Leases.m24_ : Array Bool := #[T,T,T,T,T,T,T,T,T,T,T,T,T,T,T,T,T,T,T,T,T,T,T,T,F,F,F,F,F,F,F,F,F,F]
abbrev spec_l05Leases.m25_ : Array Bool := #[T,T,T,T,T,T,T,T,T,T,T,T,T,T,T,T,T,T,T,T,T,T,T,T,T,F,F,F,F,F,F,F,F,F]
abbrev spec_l05Leases.m26_ : Array Bool := #[T,T,T,T,T,T,T,T,T,T,T,T,T,T,T,T,T,T,T,T,T,T,T,T,T,F,T,F,F,F,F,F,F,F]
abbrev spec_l05Leases.m27_ : Array Bool := #[T,T,T,T,T,T,T,T,T,T,T,T,T,T,T,T,T,T,T,T,T,T,T,T,T,F,T,T,F,F,F,F,F,F]
abbrev spec_l05Leases.m28_ : Array Bool := #[T,T,T,T,T,T,T,T,T,T,T,T,T,T,T,T,T,T,T,T,T,T,T,T,T,F,T,T,T,F,F,F,F,F]
abbrev spec_l05Leases.m29_ : Array Bool := #[T,T,T,T,T,T,T,T,T,T,T,T,T,T,T,T,T,T,T,T,T,T,T,T,T,F,T,T,T,T,F,F,F,F]
abbrev spec_l05Leases.m30_ : Array Bool := #[T,T,T,T,T,T,T,T,T,T,T,T,T,T,T,T,T,T,T,T,T,T,T,T,T,T,T,T,T,T,F,F,F,F]
abbrev spec_l05Leases.m31_ : Array Bool := #[T,T,T,T,T,T,T,T,T,T,T,T,T,T,T,T,T,T,T,T,T,T,T,T,T,T,T,T,T,T,T,F,F,F]
abbrev spec_l05Leases.m32_ : Array Bool := #[T,T,T,T,T,T,T,T,T,T,T,T,T,T,T,T,T,T,T,T,T,T,T,T,T,T,T,T,T,T,T,T,F,F]
abbrev spec_l05Leases.m33_ : Array Bool := #[T,T,T,T,T,T,T,T,T,T,T,T,T,T,T,T,T,T,T,T,T,T,T,T,T,T,T,T,T,T,T,T,T,F]
abbrev spec_l05Leases.m34_ : Array Bool := #[T,T,T,T,T,T,T,T,T,T,T,T,T,T,T,T,T,T,T,T,T,T,T,T,T,T,T,T,T,T,T,T,T,T]
abbrev spec_l05Leases.m35_ : Array Bool := #[T,T,T,T,T,T,T,T,T,T,T,T,T,T,T,T,T,T,T,T,T,T,T,T,T,T,F,F,F,F,F,F,F,F]
abbrev spec_l05Leases.m36_ : Array Bool := #[T,T,T,T,T,T,T,T,T,T,T,T,T,T,T,T,T,T,T,T,T,T,T,T,T,T,T,F,F,F,F,F,F,F]
abbrev spec_l05Leases.m37_ : Array Bool := #[T,T,T,T,T,T,T,T,T,T,T,T,T,T,T,T,T,T,T,T,T,T,T,T,T,T,T,T,F,F,F,F,F,F]
abbrev spec_l05Leases.m38_ : Array Bool := #[T,T,T,T,T,T,T,T,T,T,T,T,T,T,T,T,T,T,T,T,T,T,T,T,T,T,T,T,T,F,F,F,F,F]
def spec_l05Leases.l0 : Nat → List (S63) → Int → Int → Option (Bool)
  | 0, _, _, _ => none
  | k + 1, x0, x5, x6 => if x6 < x5 then (if 0 ≤ x6 then (if x6 < (x0.length : Int) then ((spec_l01Member.f ((rd_T63 x0 x6).f0)).bind fun t145 => (if t145 = true then ((spec_l01Tick.f ((rd_T63 x0 x6).f1)).bind fun t147 => (if t147 = true then (if x6 > 0 then (if 0 ≤ (wrap64 (x6 - 1)) then (if (wrap64 (x6 - 1)) < (x0.length : Int) then (if ((rd_T63 x0 (wrap64 (x6 - 1))).f0) ≥ ((rd_T63 x0 x6).f0) then (some false) else (spec_l05Leases.l0 k x0 x5 (wrap64 (x6 + 1)))) else (none)) else (none)) else (spec_l05Leases.l0 k x0 x5 (wrap64 (x6 + 1)))) else (some false))) else (some false))) else (none)) else (none)) else (some (decide ((x0.length : Int) ≤ 30)))
def spec_l05Leases.f (k : Nat) (l0 : List (S63)) : Option (Bool) := spec_l05Leases.l0 k l0 (l0.length : Int) 0
theorem spec_l05Leases.mono_l : ∀ k, (∀ y0 y1 y2, LeO (spec_l05Leases.l0 k y0 y1 y2) (spec_l05Leases.l0 (k + 1) y0 y1 y2))
  | 0 => fun _ _ _ r h => by simp [spec_l05Leases.l0] at h
  | k + 1 => by
    have ih0 := spec_l05Leases.mono_l k
    · intro y0 y1 y2
      unfold spec_l05Leases.l0
      repeat' first
      | (with_reducible exact ih0 _ _ _)
      | (with_reducible exact LeO.refl _)
      | (with_reducible exact LeO.none _)
      | (with_reducible refine LeO.ite ?_ ?_)
      | (with_reducible refine LeO.bind ?_ (fun _ => ?_))
      | exact ih0 _ _ _
      | exact LeO.none _
      | refine LeO.ite ?_ ?_
      | refine LeO.bind ?_ (fun _ => ?_)
theorem spec_l05Leases.mono : ∀ a0 k, LeO (spec_l05Leases.f k a0) (spec_l05Leases.f (k + 1) a0) := by
  intro a0 k
  have ih0 := spec_l05Leases.mono_l k
  unfold spec_l05Leases.f
  repeat' first
      | (with_reducible exact ih0 _ _ _)
      | (with_reducible exact LeO.refl _)
      | (with_reducible exact LeO.none _)
      | (with_reducible refine LeO.ite ?_ ?_)
      | (with_reducible refine LeO.bind ?_ (fun _ => ?_))
      | exact ih0 _ _ _
      | exact LeO.none _
      | refine LeO.ite ?_ ?_
      | refine LeO.bind ?_ (fun _ => ?_)
def spec_l05Leases.T4 : Bool × List (List Nat × List Nat) := (true, [([], []), ([], []), ([0, 1], [0, 1]), ([2], [2]), ([3], [3]), ([4], [4]), ([5], [5]), ([6, 5], [6]), ([7], [7]), ([7], [7]), ([8, 9, 7], [7, 8, 9]), ([10, 7], [7, 10]), ([11, 7], [7, 11]), ([12, 7, 7], [7, 12]), ([13, 7], [7, 13]), ([7, 14], [7, 14]), ([15, 13], [15]), ([16], [16]), ([17, 16], [16, 17]), ([18, 16, 16], [16, 18]), ([19], [19]), ([19], [19]), ([21, 19], [19, 21]), ([20, 22, 19], [19, 20, 22]), ([23, 19], [19, 23]), ([24, 19], [19, 24]), ([19], [19]), ([19], [19]), ([26, 27, 19], [19, 26, 27]), ([28, 19], [19, 28]), ([29, 19], [19, 29]), ([25, 30, 19], [19, 25, 30]), ([19, 31, 16], [16, 19, 31]), ([16, 32], [16, 32])])
def spec_l05Leases.B4 : List Nat := [0, 0, 3, 7, 15, 31, 63, 127, 255, 255, 1023, 2047, 4095, 8191, 16383, 32767, 65535, 131071, 262143, 524287, 1048575, 1048575, 3145727, 8388607, 16777215, 33554431, 1048575, 1048575, 202375167, 470810623, 1007681535, 2147483647, 4294967295, 8589934591]
theorem spec_l05Leases.tab4 : rtab .any (opsOf Try.f100 4) = spec_l05Leases.T4 := by kernel_rfl
theorem spec_l05Leases.bits4 : waitsOk spec_l05Leases.T4.2 spec_l05Leases.B4 = true := by kernel_rfl
set_option maxHeartbeats 8000000 in
set_option maxRecDepth 100000 in
theorem spec_l05Leases.calls (k : Nat) (A0 : Option Addr) (c0 : Nat) (l0 : List (S63)) (r : Bool) (w : World) (hr0 : Kd.C k63 w A0 l0.length l0) (hc0 : l0.length ≤ c0) (h : spec_l05Leases.f k l0 = some r) :
    Calls Try.prog 100 #[.slice A0 l0.length c0] w fun e w' => e = .returned (.bool r) ∧ Below w.heap.size w w' := by
 have HR0 := A_ hr0
 have HC0 := A_ hc0
 clear hr0 hc0
 have HB := A_ (Below.refl w.heap.size w)
 have H : (spec_l05Leases.l0 k l0 (l0.length : Int) 0) = some r := h
 clear h
 have H' := A_ H
 clear H
 go_enter Try.func100, Try.ntmps100
 go_wp2
 go_loopg [6] k (fun kq v6 w' => ∃ (x6_1 : Int), v6 = .int .i64 x6_1 ∧ Aside0 (spec_l05Leases.l0 kq l0 (l0.length : Int) x6_1 = some r) ∧ Aside0 (kq ≤ k) ∧ Aside0 (Below w.heap.size w w'))
 case atStart => exact ⟨(0), s1_, H', ⟨Nat.le_refl _⟩, ⟨y1_ HB.out⟩⟩
 case round =>
  skip
  {
 clear H'
 try clear c1
 obtain ⟨x6_1, rfl, HA, HK1, HB⟩ := hrel
 cases gk with
 | zero => exact absurd HA.out (by simp [spec_l05Leases.l0])
 | succ k1 =>
  skip
  {
 have H := HA.out
 clear HA
 simp only [spec_l05Leases.l0] at H
 by_cases c2 : x6_1 < (l0.length : Int)
 {
 rw [if_pos c2] at H
 have c2b0 : decide (x6_1 < (l0.length : Int)) = true := decide_eq_true c2
 clear c2
 by_cases c3 : 0 ≤ x6_1
 {
 rw [if_pos c3] at H
 have c3b0 : decide (0 ≤ x6_1) = true := decide_eq_true c3
 clear c3
 by_cases c4 : x6_1 < (l0.length : Int)
 {
 rw [if_pos c4] at H
 have c4b0 : decide (x6_1 < (l0.length : Int)) = true := decide_eq_true c4
 clear c4
 replace H := Option.bind_eq_some_iff.mp H
 obtain ⟨t145, A50, H⟩ := H
 replace H : (if t145 = true then ((spec_l01Tick.f ((rd_T63 l0 x6_1).f1)).bind fun t147 => (if t147 = true then (if x6_1 > 0 then (if 0 ≤ (wrap64 (x6_1 - 1)) then (if (wrap64 (x6_1 - 1)) < (l0.length : Int) then (if ((rd_T63 l0 (wrap64 (x6_1 - 1))).f0) ≥ ((rd_T63 l0 x6_1).f0) then (some false) else (spec_l05Leases.l0 k1 l0 (l0.length : Int) (wrap64 (x6_1 + 1)))) else (none)) else (none)) else (spec_l05Leases.l0 k1 l0 (l0.length : Int) (wrap64 (x6_1 + 1)))) else (some false))) else (some false)) = some r := H
 have A5 := A_ A50
 clear A50
 by_cases c6 : t145 = true
 {
 subst c6
 have H1 : ((spec_l01Tick.f ((rd_T63 l0 x6_1).f1)).bind fun t147 => (if t147 = true then (if x6_1 > 0 then (if 0 ≤ (wrap64 (x6_1 - 1)) then (if (wrap64 (x6_1 - 1)) < (l0.length : Int) then (if ((rd_T63 l0 (wrap64 (x6_1 - 1))).f0) ≥ ((rd_T63 l0 x6_1).f0) then (some false) else (spec_l05Leases.l0 k1 l0 (l0.length : Int) (wrap64 (x6_1 + 1)))) else (none)) else (none)) else (spec_l05Leases.l0 k1 l0 (l0.length : Int) (wrap64 (x6_1 + 1)))) else (some false))) = some r := by rw [if_pos rfl] at H; exact H
 clear H
 have H := H1
 clear H1
 replace H := Option.bind_eq_some_iff.mp H
 obtain ⟨t147, A70, H⟩ := H
 replace H : (if t147 = true then (if x6_1 > 0 then (if 0 ≤ (wrap64 (x6_1 - 1)) then (if (wrap64 (x6_1 - 1)) < (l0.length : Int) then (if ((rd_T63 l0 (wrap64 (x6_1 - 1))).f0) ≥ ((rd_T63 l0 x6_1).f0) then (some false) else (spec_l05Leases.l0 k1 l0 (l0.length : Int) (wrap64 (x6_1 + 1)))) else (none)) else (none)) else (spec_l05Leases.l0 k1 l0 (l0.length : Int) (wrap64 (x6_1 + 1)))) else (some false)) = some r := H
 have A7 := A_ A70
 clear A70
 by_cases c8 : t147 = true
 {
 subst c8
 have H1 : (if x6_1 > 0 then (if 0 ≤ (wrap64 (x6_1 - 1)) then (if (wrap64 (x6_1 - 1)) < (l0.length : Int) then (if ((rd_T63 l0 (wrap64 (x6_1 - 1))).f0) ≥ ((rd_T63 l0 x6_1).f0) then (some false) else (spec_l05Leases.l0 k1 l0 (l0.length : Int) (wrap64 (x6_1 + 1)))) else (none)) else (none)) else (spec_l05Leases.l0 k1 l0 (l0.length : Int) (wrap64 (x6_1 + 1)))) = some r := by rw [if_pos rfl] at H; exact H
 clear H
 have H := H1
 clear H1
 by_cases c9 : x6_1 > 0
 {
 rw [if_pos c9] at H
 have c9b0 : decide (0 < x6_1) = true := decide_eq_true c9
 clear c9
 obtain ⟨ji10, hji10⟩ : ∃ j_ : Int, (wrap64 (x6_1 - 1)) = j_ := ⟨_, rfl⟩
 replace H : (if 0 ≤ (ji10) then (if (ji10) < (l0.length : Int) then (if ((rd_T63 l0 (ji10)).f0) ≥ ((rd_T63 l0 x6_1).f0) then (some false) else (spec_l05Leases.l0 k1 l0 (l0.length : Int) (wrap64 (x6_1 + 1)))) else (none)) else (none)) = some r := by first | (rw [hji10] at H; exact H) | (simp only [hji10] at H ⊢; exact H)
 (try rw [hji10] at A5)
 (try rw [hji10] at A7)
 have hji10w : (IntKind.i64.wrap (x6_1 - 1)) = ji10 := (i64_w _).trans hji10
 by_cases c11 : 0 ≤ (ji10)
 {
 rw [if_pos c11] at H
 have c11b0 : decide (0 ≤ (ji10)) = true := decide_eq_true c11
 clear c11
 by_cases c12 : (ji10) < (l0.length : Int)
 {
 rw [if_pos c12] at H
 have c12b0 : decide ((ji10) < (l0.length : Int)) = true := decide_eq_true c12
 clear c12
 by_cases c13 : ((rd_T63 l0 (ji10)).f0) ≥ ((rd_T63 l0 x6_1).f0)
 {
 rw [if_pos c13] at H
 have c13b0 : decide (((rd_T63 l0 x6_1).f0) ≤ ((rd_T63 l0 (ji10)).f0)) = true := decide_eq_true c13
 clear c13
 obtain rfl := Option.some.inj H
 try go_wp2
 replace HB := A_ (below_drew1 HB.out)
 have p144 : 0 ≤ (x6_1 : Int) := o1_
 have q144 : x6_1 < (l0.length : Int) := o1_
 obtain ⟨ad144, e144, hx144_0, hx144_1⟩ := at_T63 HR0.out x6_1 p144 q144
 have hw144_1 := hx144_1
 have hw144_0 := hx144_0
 cases e144
 replace hx144_0 := (HB.out.cell (World.block_lt_of_cell? w _ hx144_0)).trans hx144_0
 replace hx144_1 := (HB.out.cell (World.block_lt_of_cell? w _ hx144_1)).trans hx144_1
 replace p144 := eq_true p144
 replace q144 := eq_true q144
 have p146 : 0 ≤ (x6_1 : Int) := o1_
 have q146 : x6_1 < (l0.length : Int) := o1_
 obtain ⟨ad146, e146, hx146_0, hx146_1⟩ := at_T63 HR0.out x6_1 p146 q146
 have hw146_1 := hx146_1
 have hw146_0 := hx146_0
 obtain rfl : ad144 = ad146 := (by injection e146)
 replace hx146_0 := (HB.out.cell (World.block_lt_of_cell? w _ hx146_0)).trans hx146_0
 replace hx146_1 := (HB.out.cell (World.block_lt_of_cell? w _ hx146_1)).trans hx146_1
 replace p146 := eq_true p146
 replace q146 := eq_true q146
 have p148 : 0 ≤ ((ji10) : Int) := o1_
 have q148 : (ji10) < (l0.length : Int) := o1_
 obtain ⟨ad148, e148, hx148_0, hx148_1⟩ := at_T63 HR0.out (ji10) p148 q148
 have hw148_1 := hx148_1
 have hw148_0 := hx148_0
 obtain rfl : ad144 = ad148 := (by injection e148)
 replace hx148_0 := (HB.out.cell (World.block_lt_of_cell? w _ hx148_0)).trans hx148_0
 replace hx148_1 := (HB.out.cell (World.block_lt_of_cell? w _ hx148_1)).trans hx148_1
 replace p148 := eq_true p148
 replace q148 := eq_true q148
 have p149 : 0 ≤ (x6_1 : Int) := o1_
 have q149 : x6_1 < (l0.length : Int) := o1_
 obtain ⟨ad149, e149, hx149_0, hx149_1⟩ := at_T63 HR0.out x6_1 p149 q149
 have hw149_1 := hx149_1
 have hw149_0 := hx149_0
 obtain rfl : ad144 = ad149 := (by injection e149)
 replace hx149_0 := (HB.out.cell (World.block_lt_of_cell? w _ hx149_0)).trans hx149_0
 replace hx149_1 := (HB.out.cell (World.block_lt_of_cell? w _ hx149_1)).trans hx149_1
 replace p149 := eq_true p149
 replace q149 := eq_true q149
 refine start_ (n := 34) (S := fun w' => w'.cell? (ad144.add ((x6_1).toNat * 2)) = some (.int .i64 ((rd_T63 l0 x6_1).f0)) ∧ w'.cell? ⟨(ad144.add ((x6_1).toNat * 2)).block, (ad144.add ((x6_1).toNat * 2)).off + 1, none⟩ = some (.int .i64 ((rd_T63 l0 x6_1).f1)) ∧ w'.cell? (ad144.add ((x6_1).toNat * 2)) = some (.int .i64 ((rd_T63 l0 x6_1).f0)) ∧ w'.cell? ⟨(ad144.add ((x6_1).toNat * 2)).block, (ad144.add ((x6_1).toNat * 2)).off + 1, none⟩ = some (.int .i64 ((rd_T63 l0 x6_1).f1)) ∧ w'.cell? (ad144.add (((ji10)).toNat * 2)) = some (.int .i64 ((rd_T63 l0 (ji10)).f0)) ∧ w'.cell? ⟨(ad144.add (((ji10)).toNat * 2)).block, (ad144.add (((ji10)).toNat * 2)).off + 1, none⟩ = some (.int .i64 ((rd_T63 l0 (ji10)).f1)) ∧ w'.cell? (ad144.add ((x6_1).toNat * 2)) = some (.int .i64 ((rd_T63 l0 x6_1).f0)) ∧ w'.cell? ⟨(ad144.add ((x6_1).toNat * 2)).block, (ad144.add ((x6_1).toNat * 2)).off + 1, none⟩ = some (.int .i64 ((rd_T63 l0 x6_1).f1))) (ds := []) m0_ s2_ rfl rfl ⟨((HB.out.cell (World.block_lt_of_cell? w _ hw144_0)).trans hw144_0), ((HB.out.cell (World.block_lt_of_cell? w _ hw144_1)).trans hw144_1), ((HB.out.cell (World.block_lt_of_cell? w _ hw146_0)).trans hw146_0), ((HB.out.cell (World.block_lt_of_cell? w _ hw146_1)).trans hw146_1), ((HB.out.cell (World.block_lt_of_cell? w _ hw148_0)).trans hw148_0), ((HB.out.cell (World.block_lt_of_cell? w _ hw148_1)).trans hw148_1), ((HB.out.cell (World.block_lt_of_cell? w _ hw149_0)).trans hw149_0), ((HB.out.cell (World.block_lt_of_cell? w _ hw149_1)).trans hw149_1)⟩ (fun hHeld => ?_); refine with_tabW spec_l05Leases.tab4 spec_l05Leases.bits4 (fun HT_ HW_ => ?_)
 generalize wr.drew = w14 at HB hx144_0 hx144_1 hx146_0 hx146_1 hx148_0 hx148_1 hx149_0 hx149_1 hHeld ⊢
 refine pu_ 0 9 m1_ (any_of HT_.out s2_) ?_
 refine pu_ 1 10 m2_ (any_of HT_.out s2_) ?_
 refine pu_ 2 11 m3_ (any_of HT_.out s2_) ?_
 refine pu_ 3 12 m4_ (any_of HT_.out s2_) ?_
 refine take_ (i := 4) (N := some 13) (v := ?_) (a' := ?_) m5_ rfl rfl (take_ofW HT_.out HW_.out s2_) (fun _ _ _ h => h) (Or.inl ⟨by rfl, ?_⟩) hHeld ?_ ?_
 rotate_left
 {
 rintro w' ⟨s0, s1, s2, s3, s4, s5, s6, s7⟩
 go_simp
 with_reducible rfl}
 rotate_left
 · exact p1_
 refine one_ (i := 5) (N := some 14) m6_ rfl rfl (one_of HT_.out s2_) (by decide) (fun K hK => ?_)
 refine goes_ Try.func98 s2_ rfl #[.int .i64 ((rd_T63 l0 x6_1).f0)] (by rfl) rfl rfl s3_ ?_
 with_reducible refine (spec_l01Member.calls ((rd_T63 l0 x6_1).f0) true _ A5.out).mono ?_
 rintro e w' ⟨rfl, ⟨nd, rfl⟩⟩
 refine ⟨_, rfl, ?_⟩
 refine hK.out _ _ ⟨((HB.out.cell (World.block_lt_of_cell? w _ hw144_0)).trans hw144_0), ((HB.out.cell (World.block_lt_of_cell? w _ hw144_1)).trans hw144_1), ((HB.out.cell (World.block_lt_of_cell? w _ hw146_0)).trans hw146_0), ((HB.out.cell (World.block_lt_of_cell? w _ hw146_1)).trans hw146_1), ((HB.out.cell (World.block_lt_of_cell? w _ hw148_0)).trans hw148_0), ((HB.out.cell (World.block_lt_of_cell? w _ hw148_1)).trans hw148_1), ((HB.out.cell (World.block_lt_of_cell? w _ hw149_0)).trans hw149_0), ((HB.out.cell (World.block_lt_of_cell? w _ hw149_1)).trans hw149_1)⟩ (fun hHeld => ?_)
 clear hK K
 refine norm_ (a' := ?_) ?_ ?_
 rotate_left
 {
 show Act.put _ (some 14) _ = _
 simp only [Act.put, List.setIfInBounds_toArray, List.set_cons_zero, List.set_cons_succ, i64_w, i32_w]
 rfl}
 refine pu_ 6 15 m7_ (any_of HT_.out s2_) ?_
 refine pu_ 7 16 m8_ (any_of HT_.out s2_) ?_
 refine pu_ 8 17 m9_ (any_of HT_.out s2_) ?_
 refine pu_ 9 18 m10_ (any_of HT_.out s2_) ?_
 refine pu_ 10 19 m11_ (any_of HT_.out s2_) ?_
 refine pu_ 11 20 m12_ (any_of HT_.out s2_) ?_
 refine take_ (i := 12) (N := some 21) (v := ?_) (a' := ?_) m13_ rfl rfl (take_ofW HT_.out HW_.out s2_) (fun _ _ _ h => h) (Or.inl ⟨by rfl, ?_⟩) hHeld ?_ ?_
 rotate_left
 {
 rintro w' ⟨s0, s1, s2, s3, s4, s5, s6, s7⟩
 go_simp
 with_reducible rfl}
 rotate_left
 · exact p1_
 refine one_ (i := 13) (N := some 22) m14_ rfl rfl (one_of HT_.out s2_) (by decide) (fun K hK => ?_)
 refine goes_ Try.func58 s2_ rfl #[.int .i64 ((rd_T63 l0 x6_1).f1)] (by rfl) rfl rfl s3_ ?_
 with_reducible refine (spec_l01Tick.calls ((rd_T63 l0 x6_1).f1) true _ A7.out).mono ?_
 rintro e w' ⟨rfl, ⟨nd, rfl⟩⟩
 refine ⟨_, rfl, ?_⟩
 refine hK.out _ _ ⟨((HB.out.cell (World.block_lt_of_cell? w _ hw144_0)).trans hw144_0), ((HB.out.cell (World.block_lt_of_cell? w _ hw144_1)).trans hw144_1), ((HB.out.cell (World.block_lt_of_cell? w _ hw146_0)).trans hw146_0), ((HB.out.cell (World.block_lt_of_cell? w _ hw146_1)).trans hw146_1), ((HB.out.cell (World.block_lt_of_cell? w _ hw148_0)).trans hw148_0), ((HB.out.cell (World.block_lt_of_cell? w _ hw148_1)).trans hw148_1), ((HB.out.cell (World.block_lt_of_cell? w _ hw149_0)).trans hw149_0), ((HB.out.cell (World.block_lt_of_cell? w _ hw149_1)).trans hw149_1)⟩ (fun hHeld => ?_)
 clear hK K
 refine norm_ (a' := ?_) ?_ ?_
 rotate_left
 {
 show Act.put _ (some 22) _ = _
 simp only [Act.put, List.setIfInBounds_toArray, List.set_cons_zero, List.set_cons_succ, i64_w, i32_w]
 rfl}
 refine pu_ 14 23 m15_ (any_of HT_.out s2_) ?_
 refine pu_ 15 24 m16_ (any_of HT_.out s2_) ?_
 refine pu_ 16 25 m17_ (any_of HT_.out s2_) ?_
 refine pu_ 17 26 m18_ (any_of HT_.out s2_) ?_
 refine pu_ 18 27 m19_ (any_of HT_.out s2_) ?_
 refine pu_ 19 28 m20_ (any_of HT_.out s2_) ?_
 refine pu_ 20 29 m21_ (any_of HT_.out s2_) ?_
 refine pu_ 21 30 m22_ (any_of HT_.out s2_) ?_
 refine pu_ 22 31 m23_ (any_of HT_.out s2_) ?_
 refine pu_ 23 32 m24_ (any_of HT_.out s2_) ?_
 refine pu_ 24 33 m25_ (any_of HT_.out s2_) ?_
 refine pu_ 26 35 m26_ (any_of HT_.out s2_) ?_
 refine pu_ 27 36 m27_ (any_of HT_.out s2_) ?_
 refine pu_ 28 37 m28_ (any_of HT_.out s2_) ?_
 refine pu_ 29 38 m29_ (any_of HT_.out s2_) ?_
 refine take_ (i := 25) (N := some 34) (v := ?_) (a' := ?_) m30_ rfl rfl (take_ofW HT_.out HW_.out s2_) (fun _ _ _ h => h) (Or.inl ⟨by rfl, ?_⟩) hHeld ?_ ?_
 rotate_left
 {
 rintro w' ⟨s0, s1, s2, s3, s4, s5, s6, s7⟩
 go_simp
 with_reducible rfl}
 rotate_left
 · exact p1_
 refine take_ (i := 30) (N := some 39) (v := ?_) (a' := ?_) m31_ rfl rfl (take_ofW HT_.out HW_.out s2_) (fun _ _ _ h => h) (Or.inl ⟨by rfl, ?_⟩) hHeld ?_ ?_
 rotate_left
 {
 rintro w' ⟨s0, s1, s2, s3, s4, s5, s6, s7⟩
 go_simp
 with_reducible rfl}
 rotate_left
 · exact p1_
 refine pu_ 31 40 m32_ (any_of HT_.out s2_) ?_
 refine pu_ 32 41 m33_ (any_of HT_.out s2_) ?_
 refine pu_ 33 42 m34_ (any_of HT_.out s2_) ?_
 refine done_ (done_of HT_.out s2_) ?_
 try go_wp2
 go_ret
 exact ⟨by first | rfl | (simp [errW_none, errW_some] <;> rfl) | (simp only [← hji10]; first | rfl | (simp [errW_none, errW_some] <;> rfl)) | (simp [*, errW_none, errW_some] <;> rfl), y1_ HB.out⟩}
 {
 rw [if_neg c13] at H
 have c13b0 : decide (((rd_T63 l0 x6_1).f0) ≤ ((rd_T63 l0 (ji10)).f0)) = false := decide_eq_false c13
 clear c13
 have H' := A_ H
 clear H
 try go_wp2
 replace HB := A_ (below_drew1 HB.out)
 have p144 : 0 ≤ (x6_1 : Int) := o1_
 have q144 : x6_1 < (l0.length : Int) := o1_
 obtain ⟨ad144, e144, hx144_0, hx144_1⟩ := at_T63 HR0.out x6_1 p144 q144
 have hw144_1 := hx144_1
 have hw144_0 := hx144_0
 cases e144
 replace hx144_0 := (HB.out.cell (World.block_lt_of_cell? w _ hx144_0)).trans hx144_0
 replace hx144_1 := (HB.out.cell (World.block_lt_of_cell? w _ hx144_1)).trans hx144_1
 replace p144 := eq_true p144
 replace q144 := eq_true q144
 have p146 : 0 ≤ (x6_1 : Int) := o1_
 have q146 : x6_1 < (l0.length : Int) := o1_
 obtain ⟨ad146, e146, hx146_0, hx146_1⟩ := at_T63 HR0.out x6_1 p146 q146
 have hw146_1 := hx146_1
 have hw146_0 := hx146_0
 obtain rfl : ad144 = ad146 := (by injection e146)
 replace hx146_0 := (HB.out.cell (World.block_lt_of_cell? w _ hx146_0)).trans hx146_0
 replace hx146_1 := (HB.out.cell (World.block_lt_of_cell? w _ hx146_1)).trans hx146_1
 replace p146 := eq_true p146
 replace q146 := eq_true q146
 have p148 : 0 ≤ ((ji10) : Int) := o1_
 have q148 : (ji10) < (l0.length : Int) := o1_
 obtain ⟨ad148, e148, hx148_0, hx148_1⟩ := at_T63 HR0.out (ji10) p148 q148
 have hw148_1 := hx148_1
 have hw148_0 := hx148_0
 obtain rfl : ad144 = ad148 := (by injection e148)
 replace hx148_0 := (HB.out.cell (World.block_lt_of_cell? w _ hx148_0)).trans hx148_0
 replace hx148_1 := (HB.out.cell (World.block_lt_of_cell? w _ hx148_1)).trans hx148_1
 replace p148 := eq_true p148
 replace q148 := eq_true q148
 have p149 : 0 ≤ (x6_1 : Int) := o1_
 have q149 : x6_1 < (l0.length : Int) := o1_
 obtain ⟨ad149, e149, hx149_0, hx149_1⟩ := at_T63 HR0.out x6_1 p149 q149
 have hw149_1 := hx149_1
 have hw149_0 := hx149_0
 obtain rfl : ad144 = ad149 := (by injection e149)
 replace hx149_0 := (HB.out.cell (World.block_lt_of_cell? w _ hx149_0)).trans hx149_0
 replace hx149_1 := (HB.out.cell (World.block_lt_of_cell? w _ hx149_1)).trans hx149_1
 replace p149 := eq_true p149
 replace q149 := eq_true q149
 refine start_ (n := 34) (S := fun w' => w'.cell? (ad144.add ((x6_1).toNat * 2)) = some (.int .i64 ((rd_T63 l0 x6_1).f0)) ∧ w'.cell? ⟨(ad144.add ((x6_1).toNat * 2)).block, (ad144.add ((x6_1).toNat * 2)).off + 1, none⟩ = some (.int .i64 ((rd_T63 l0 x6_1).f1)) ∧ w'.cell? (ad144.add ((x6_1).toNat * 2)) = some (.int .i64 ((rd_T63 l0 x6_1).f0)) ∧ w'.cell? ⟨(ad144.add ((x6_1).toNat * 2)).block, (ad144.add ((x6_1).toNat * 2)).off + 1, none⟩ = some (.int .i64 ((rd_T63 l0 x6_1).f1)) ∧ w'.cell? (ad144.add (((ji10)).toNat * 2)) = some (.int .i64 ((rd_T63 l0 (ji10)).f0)) ∧ w'.cell? ⟨(ad144.add (((ji10)).toNat * 2)).block, (ad144.add (((ji10)).toNat * 2)).off + 1, none⟩ = some (.int .i64 ((rd_T63 l0 (ji10)).f1)) ∧ w'.cell? (ad144.add ((x6_1).toNat * 2)) = some (.int .i64 ((rd_T63 l0 x6_1).f0)) ∧ w'.cell? ⟨(ad144.add ((x6_1).toNat * 2)).block, (ad144.add ((x6_1).toNat * 2)).off + 1, none⟩ = some (.int .i64 ((rd_T63 l0 x6_1).f1))) (ds := []) m0_ s2_ rfl rfl ⟨((HB.out.cell (World.block_lt_of_cell? w _ hw144_0)).trans hw144_0), ((HB.out.cell (World.block_lt_of_cell? w _ hw144_1)).trans hw144_1), ((HB.out.cell (World.block_lt_of_cell? w _ hw146_0)).trans hw146_0), ((HB.out.cell (World.block_lt_of_cell? w _ hw146_1)).trans hw146_1), ((HB.out.cell (World.block_lt_of_cell? w _ hw148_0)).trans hw148_0), ((HB.out.cell (World.block_lt_of_cell? w _ hw148_1)).trans hw148_1), ((HB.out.cell (World.block_lt_of_cell? w _ hw149_0)).trans hw149_0), ((HB.out.cell (World.block_lt_of_cell? w _ hw149_1)).trans hw149_1)⟩ (fun hHeld => ?_); refine with_tabW spec_l05Leases.tab4 spec_l05Leases.bits4 (fun HT_ HW_ => ?_)
 generalize wr.drew = w15 at HB hx144_0 hx144_1 hx146_0 hx146_1 hx148_0 hx148_1 hx149_0 hx149_1 hHeld ⊢
 refine pu_ 0 9 m1_ (any_of HT_.out s2_) ?_
 refine pu_ 1 10 m2_ (any_of HT_.out s2_) ?_
 refine pu_ 2 11 m3_ (any_of HT_.out s2_) ?_
 refine pu_ 3 12 m4_ (any_of HT_.out s2_) ?_
 refine take_ (i := 4) (N := some 13) (v := ?_) (a' := ?_) m5_ rfl rfl (take_ofW HT_.out HW_.out s2_) (fun _ _ _ h => h) (Or.inl ⟨by rfl, ?_⟩) hHeld ?_ ?_
 rotate_left
 {
 rintro w' ⟨s0, s1, s2, s3, s4, s5, s6, s7⟩
 go_simp
 with_reducible rfl}
 rotate_left
 · exact p1_
 refine one_ (i := 5) (N := some 14) m6_ rfl rfl (one_of HT_.out s2_) (by decide) (fun K hK => ?_)
 refine goes_ Try.func98 s2_ rfl #[.int .i64 ((rd_T63 l0 x6_1).f0)] (by rfl) rfl rfl s3_ ?_
 with_reducible refine (spec_l01Member.calls ((rd_T63 l0 x6_1).f0) true _ A5.out).mono ?_
 rintro e w' ⟨rfl, ⟨nd, rfl⟩⟩
 refine ⟨_, rfl, ?_⟩
 refine hK.out _ _ ⟨((HB.out.cell (World.block_lt_of_cell? w _ hw144_0)).trans hw144_0), ((HB.out.cell (World.block_lt_of_cell? w _ hw144_1)).trans hw144_1), ((HB.out.cell (World.block_lt_of_cell? w _ hw146_0)).trans hw146_0), ((HB.out.cell (World.block_lt_of_cell? w _ hw146_1)).trans hw146_1), ((HB.out.cell (World.block_lt_of_cell? w _ hw148_0)).trans hw148_0), ((HB.out.cell (World.block_lt_of_cell? w _ hw148_1)).trans hw148_1), ((HB.out.cell (World.block_lt_of_cell? w _ hw149_0)).trans hw149_0), ((HB.out.cell (World.block_lt_of_cell? w _ hw149_1)).trans hw149_1)⟩ (fun hHeld => ?_)
 clear hK K
 refine norm_ (a' := ?_) ?_ ?_
 rotate_left
 {
 show Act.put _ (some 14) _ = _
 simp only [Act.put, List.setIfInBounds_toArray, List.set_cons_zero, List.set_cons_succ, i64_w, i32_w]
 rfl}
 refine pu_ 6 15 m7_ (any_of HT_.out s2_) ?_
 refine pu_ 7 16 m8_ (any_of HT_.out s2_) ?_
 refine pu_ 8 17 m9_ (any_of HT_.out s2_) ?_
 refine pu_ 9 18 m10_ (any_of HT_.out s2_) ?_
 refine pu_ 10 19 m11_ (any_of HT_.out s2_) ?_
 refine pu_ 11 20 m12_ (any_of HT_.out s2_) ?_
 refine take_ (i := 12) (N := some 21) (v := ?_) (a' := ?_) m13_ rfl rfl (take_ofW HT_.out HW_.out s2_) (fun _ _ _ h => h) (Or.inl ⟨by rfl, ?_⟩) hHeld ?_ ?_
 rotate_left
 {
 rintro w' ⟨s0, s1, s2, s3, s4, s5, s6, s7⟩
 go_simp
 with_reducible rfl}
 rotate_left
 · exact p1_
 refine one_ (i := 13) (N := some 22) m14_ rfl rfl (one_of HT_.out s2_) (by decide) (fun K hK => ?_)
 refine goes_ Try.func58 s2_ rfl #[.int .i64 ((rd_T63 l0 x6_1).f1)] (by rfl) rfl rfl s3_ ?_
 with_reducible refine (spec_l01Tick.calls ((rd_T63 l0 x6_1).f1) true _ A7.out).mono ?_
 rintro e w' ⟨rfl, ⟨nd, rfl⟩⟩
 refine ⟨_, rfl, ?_⟩
 refine hK.out _ _ ⟨((HB.out.cell (World.block_lt_of_cell? w _ hw144_0)).trans hw144_0), ((HB.out.cell (World.block_lt_of_cell? w _ hw144_1)).trans hw144_1), ((HB.out.cell (World.block_lt_of_cell? w _ hw146_0)).trans hw146_0), ((HB.out.cell (World.block_lt_of_cell? w _ hw146_1)).trans hw146_1), ((HB.out.cell (World.block_lt_of_cell? w _ hw148_0)).trans hw148_0), ((HB.out.cell (World.block_lt_of_cell? w _ hw148_1)).trans hw148_1), ((HB.out.cell (World.block_lt_of_cell? w _ hw149_0)).trans hw149_0), ((HB.out.cell (World.block_lt_of_cell? w _ hw149_1)).trans hw149_1)⟩ (fun hHeld => ?_)
 clear hK K
 refine norm_ (a' := ?_) ?_ ?_
 rotate_left
 {
 show Act.put _ (some 22) _ = _
 simp only [Act.put, List.setIfInBounds_toArray, List.set_cons_zero, List.set_cons_succ, i64_w, i32_w]
 rfl}
 refine pu_ 14 23 m15_ (any_of HT_.out s2_) ?_
 refine pu_ 15 24 m16_ (any_of HT_.out s2_) ?_
 refine pu_ 16 25 m17_ (any_of HT_.out s2_) ?_
 refine pu_ 17 26 m18_ (any_of HT_.out s2_) ?_
 refine pu_ 18 27 m19_ (any_of HT_.out s2_) ?_
 refine pu_ 19 28 m20_ (any_of HT_.out s2_) ?_
 refine pu_ 20 29 m21_ (any_of HT_.out s2_) ?_
 refine pu_ 21 30 m22_ (any_of HT_.out s2_) ?_
 refine pu_ 22 31 m23_ (any_of HT_.out s2_) ?_
 refine pu_ 23 32 m24_ (any_of HT_.out s2_) ?_
 refine pu_ 24 33 m25_ (any_of HT_.out s2_) ?_
 refine pu_ 26 35 m26_ (any_of HT_.out s2_) ?_
 refine pu_ 27 36 m27_ (any_of HT_.out s2_) ?_
 refine pu_ 28 37 m28_ (any_of HT_.out s2_) ?_
 refine pu_ 29 38 m29_ (any_of HT_.out s2_) ?_
 refine take_ (i := 25) (N := some 34) (v := ?_) (a' := ?_) m30_ rfl rfl (take_ofW HT_.out HW_.out s2_) (fun _ _ _ h => h) (Or.inl ⟨by rfl, ?_⟩) hHeld ?_ ?_
 rotate_left
 {
 rintro w' ⟨s0, s1, s2, s3, s4, s5, s6, s7⟩
 go_simp
 with_reducible rfl}
 rotate_left
 · exact p1_
 refine take_ (i := 30) (N := some 39) (v := ?_) (a' := ?_) m31_ rfl rfl (take_ofW HT_.out HW_.out s2_) (fun _ _ _ h => h) (Or.inl ⟨by rfl, ?_⟩) hHeld ?_ ?_
 rotate_left
 {
 rintro w' ⟨s0, s1, s2, s3, s4, s5, s6, s7⟩
 go_simp
 with_reducible rfl}
 rotate_left
 · exact p1_
 refine pu_ 31 40 m32_ (any_of HT_.out s2_) ?_
 refine pu_ 32 41 m33_ (any_of HT_.out s2_) ?_
 refine pu_ 33 42 m34_ (any_of HT_.out s2_) ?_
 refine done_ (done_of HT_.out s2_) ?_
 try go_wp2
 go_roundg k1
 case measure => have := HK1.out; omega
 case rel => exact ⟨(wrap64 (x6_1 + 1)), s1_, H', ⟨by have := HK1.out; omega⟩, ⟨y1_ HB.out⟩⟩}}
 {
 rw [if_neg c12] at H
 exact absurd H (by simp)}}
 {
 rw [if_neg c11] at H
 exact absurd H (by simp)}}
 {
 rw [if_neg c9] at H
 have c9b0 : decide (0 < x6_1) = false := decide_eq_false c9
 clear c9
 have H' := A_ H
 clear H
 try go_wp2
 replace HB := A_ (below_drew1 HB.out)
 have p144 : 0 ≤ (x6_1 : Int) := o1_
 have q144 : x6_1 < (l0.length : Int) := o1_
 obtain ⟨ad144, e144, hx144_0, hx144_1⟩ := at_T63 HR0.out x6_1 p144 q144
 have hw144_1 := hx144_1
 have hw144_0 := hx144_0
 cases e144
 replace hx144_0 := (HB.out.cell (World.block_lt_of_cell? w _ hx144_0)).trans hx144_0
 replace hx144_1 := (HB.out.cell (World.block_lt_of_cell? w _ hx144_1)).trans hx144_1
 replace p144 := eq_true p144
 replace q144 := eq_true q144
 have p146 : 0 ≤ (x6_1 : Int) := o1_
 have q146 : x6_1 < (l0.length : Int) := o1_
 obtain ⟨ad146, e146, hx146_0, hx146_1⟩ := at_T63 HR0.out x6_1 p146 q146
 have hw146_1 := hx146_1
 have hw146_0 := hx146_0
 obtain rfl : ad144 = ad146 := (by injection e146)
 replace hx146_0 := (HB.out.cell (World.block_lt_of_cell? w _ hx146_0)).trans hx146_0
 replace hx146_1 := (HB.out.cell (World.block_lt_of_cell? w _ hx146_1)).trans hx146_1
 replace p146 := eq_true p146
 replace q146 := eq_true q146
 refine start_ (n := 34) (S := fun w' => w'.cell? (ad144.add ((x6_1).toNat * 2)) = some (.int .i64 ((rd_T63 l0 x6_1).f0)) ∧ w'.cell? ⟨(ad144.add ((x6_1).toNat * 2)).block, (ad144.add ((x6_1).toNat * 2)).off + 1, none⟩ = some (.int .i64 ((rd_T63 l0 x6_1).f1)) ∧ w'.cell? (ad144.add ((x6_1).toNat * 2)) = some (.int .i64 ((rd_T63 l0 x6_1).f0)) ∧ w'.cell? ⟨(ad144.add ((x6_1).toNat * 2)).block, (ad144.add ((x6_1).toNat * 2)).off + 1, none⟩ = some (.int .i64 ((rd_T63 l0 x6_1).f1))) (ds := []) m0_ s2_ rfl rfl ⟨((HB.out.cell (World.block_lt_of_cell? w _ hw144_0)).trans hw144_0), ((HB.out.cell (World.block_lt_of_cell? w _ hw144_1)).trans hw144_1), ((HB.out.cell (World.block_lt_of_cell? w _ hw146_0)).trans hw146_0), ((HB.out.cell (World.block_lt_of_cell? w _ hw146_1)).trans hw146_1)⟩ (fun hHeld => ?_); refine with_tabW spec_l05Leases.tab4 spec_l05Leases.bits4 (fun HT_ HW_ => ?_)
 generalize wr.drew = w16 at HB hx144_0 hx144_1 hx146_0 hx146_1 hHeld ⊢
 refine pu_ 0 9 m1_ (any_of HT_.out s2_) ?_
 refine pu_ 1 10 m2_ (any_of HT_.out s2_) ?_
 refine pu_ 2 11 m3_ (any_of HT_.out s2_) ?_
 refine pu_ 3 12 m4_ (any_of HT_.out s2_) ?_
 refine take_ (i := 4) (N := some 13) (v := ?_) (a' := ?_) m5_ rfl rfl (take_ofW HT_.out HW_.out s2_) (fun _ _ _ h => h) (Or.inl ⟨by rfl, ?_⟩) hHeld ?_ ?_
 rotate_left
 {
 rintro w' ⟨s0, s1, s2, s3⟩
 go_simp
 with_reducible rfl}
 rotate_left
 · exact p1_
 refine one_ (i := 5) (N := some 14) m6_ rfl rfl (one_of HT_.out s2_) (by decide) (fun K hK => ?_)
 refine goes_ Try.func98 s2_ rfl #[.int .i64 ((rd_T63 l0 x6_1).f0)] (by rfl) rfl rfl s3_ ?_
 with_reducible refine (spec_l01Member.calls ((rd_T63 l0 x6_1).f0) true _ A5.out).mono ?_
 rintro e w' ⟨rfl, ⟨nd, rfl⟩⟩
 refine ⟨_, rfl, ?_⟩
 refine hK.out _ _ ⟨((HB.out.cell (World.block_lt_of_cell? w _ hw144_0)).trans hw144_0), ((HB.out.cell (World.block_lt_of_cell? w _ hw144_1)).trans hw144_1), ((HB.out.cell (World.block_lt_of_cell? w _ hw146_0)).trans hw146_0), ((HB.out.cell (World.block_lt_of_cell? w _ hw146_1)).trans hw146_1)⟩ (fun hHeld => ?_)
 clear hK K
 refine norm_ (a' := ?_) ?_ ?_
 rotate_left
 {
 show Act.put _ (some 14) _ = _
 simp only [Act.put, List.setIfInBounds_toArray, List.set_cons_zero, List.set_cons_succ, i64_w, i32_w]
 rfl}
 refine pu_ 6 15 m7_ (any_of HT_.out s2_) ?_
 refine pu_ 7 16 m8_ (any_of HT_.out s2_) ?_
 refine pu_ 8 17 m9_ (any_of HT_.out s2_) ?_
 refine pu_ 9 18 m10_ (any_of HT_.out s2_) ?_
 refine pu_ 10 19 m11_ (any_of HT_.out s2_) ?_
 refine pu_ 11 20 m12_ (any_of HT_.out s2_) ?_
 refine take_ (i := 12) (N := some 21) (v := ?_) (a' := ?_) m13_ rfl rfl (take_ofW HT_.out HW_.out s2_) (fun _ _ _ h => h) (Or.inl ⟨by rfl, ?_⟩) hHeld ?_ ?_
 rotate_left
 {
 rintro w' ⟨s0, s1, s2, s3⟩
 go_simp
 with_reducible rfl}
 rotate_left
 · exact p1_
 refine one_ (i := 13) (N := some 22) m14_ rfl rfl (one_of HT_.out s2_) (by decide) (fun K hK => ?_)
 refine goes_ Try.func58 s2_ rfl #[.int .i64 ((rd_T63 l0 x6_1).f1)] (by rfl) rfl rfl s3_ ?_
 with_reducible refine (spec_l01Tick.calls ((rd_T63 l0 x6_1).f1) true _ A7.out).mono ?_
 rintro e w' ⟨rfl, ⟨nd, rfl⟩⟩
 refine ⟨_, rfl, ?_⟩
 refine hK.out _ _ ⟨((HB.out.cell (World.block_lt_of_cell? w _ hw144_0)).trans hw144_0), ((HB.out.cell (World.block_lt_of_cell? w _ hw144_1)).trans hw144_1), ((HB.out.cell (World.block_lt_of_cell? w _ hw146_0)).trans hw146_0), ((HB.out.cell (World.block_lt_of_cell? w _ hw146_1)).trans hw146_1)⟩ (fun hHeld => ?_)
 clear hK K
 refine norm_ (a' := ?_) ?_ ?_
 rotate_left
 {
 show Act.put _ (some 22) _ = _
 simp only [Act.put, List.setIfInBounds_toArray, List.set_cons_zero, List.set_cons_succ, i64_w, i32_w]
 rfl}
 refine pu_ 14 23 m15_ (any_of HT_.out s2_) ?_
 refine pu_ 15 24 m16_ (any_of HT_.out s2_) ?_
 refine pu_ 16 25 m17_ (any_of HT_.out s2_) ?_
 refine pu_ 17 26 m18_ (any_of HT_.out s2_) ?_
 refine pu_ 18 27 m19_ (any_of HT_.out s2_) ?_
 refine pu_ 19 28 m20_ (any_of HT_.out s2_) ?_
 refine pn_ 20 29 m21_ (any_of HT_.out s2_) ?_
 refine pn_ 21 30 m22_ (any_of HT_.out s2_) ?_
 refine pn_ 22 31 m23_ (any_of HT_.out s2_) ?_
 refine pn_ 23 32 m24_ (any_of HT_.out s2_) ?_
 refine pn_ 24 33 m25_ (any_of HT_.out s2_) ?_
 refine pn_ 25 34 m35_ (any_of HT_.out s2_) ?_
 refine pn_ 26 35 m36_ (any_of HT_.out s2_) ?_
 refine pn_ 27 36 m37_ (any_of HT_.out s2_) ?_
 refine pn_ 28 37 m38_ (any_of HT_.out s2_) ?_
 refine pn_ 29 38 m30_ (any_of HT_.out s2_) ?_
 refine pn_ 30 39 m31_ (any_of HT_.out s2_) ?_
 refine pn_ 31 40 m32_ (any_of HT_.out s2_) ?_
 refine pu_ 32 41 m33_ (any_of HT_.out s2_) ?_
 refine pu_ 33 42 m34_ (any_of HT_.out s2_) ?_
 refine done_ (done_of HT_.out s2_) ?_
 try go_wp2
 go_roundg k1
 case measure => have := HK1.out; omega
 case rel => exact ⟨(wrap64 (x6_1 + 1)), s1_, H', ⟨by have := HK1.out; omega⟩, ⟨y1_ HB.out⟩⟩}}
 {
 replace c8 := Bool.eq_false_iff.mpr c8
 subst c8
 have H1 : (some false) = some r := by rw [if_neg (show ¬ (false = true) by decide)] at H; exact H
 clear H
 have H := H1
 clear H1
 obtain rfl := Option.some.inj H
 try go_wp2
 replace HB := A_ (below_drew1 HB.out)
 have p144 : 0 ≤ (x6_1 : Int) := o1_
 have q144 : x6_1 < (l0.length : Int) := o1_
 obtain ⟨ad144, e144, hx144_0, hx144_1⟩ := at_T63 HR0.out x6_1 p144 q144
 have hw144_1 := hx144_1
 have hw144_0 := hx144_0
 cases e144
 replace hx144_0 := (HB.out.cell (World.block_lt_of_cell? w _ hx144_0)).trans hx144_0
 replace hx144_1 := (HB.out.cell (World.block_lt_of_cell? w _ hx144_1)).trans hx144_1
 replace p144 := eq_true p144
 replace q144 := eq_true q144
 have p146 : 0 ≤ (x6_1 : Int) := o1_
 have q146 : x6_1 < (l0.length : Int) := o1_
 obtain ⟨ad146, e146, hx146_0, hx146_1⟩ := at_T63 HR0.out x6_1 p146 q146
 have hw146_1 := hx146_1
 have hw146_0 := hx146_0
 obtain rfl : ad144 = ad146 := (by injection e146)
 replace hx146_0 := (HB.out.cell (World.block_lt_of_cell? w _ hx146_0)).trans hx146_0
 replace hx146_1 := (HB.out.cell (World.block_lt_of_cell? w _ hx146_1)).trans hx146_1
 replace p146 := eq_true p146
 replace q146 := eq_true q146
 refine start_ (n := 34) (S := fun w' => w'.cell? (ad144.add ((x6_1).toNat * 2)) = some (.int .i64 ((rd_T63 l0 x6_1).f0)) ∧ w'.cell? ⟨(ad144.add ((x6_1).toNat * 2)).block, (ad144.add ((x6_1).toNat * 2)).off + 1, none⟩ = some (.int .i64 ((rd_T63 l0 x6_1).f1)) ∧ w'.cell? (ad144.add ((x6_1).toNat * 2)) = some (.int .i64 ((rd_T63 l0 x6_1).f0)) ∧ w'.cell? ⟨(ad144.add ((x6_1).toNat * 2)).block, (ad144.add ((x6_1).toNat * 2)).off + 1, none⟩ = some (.int .i64 ((rd_T63 l0 x6_1).f1))) (ds := []) m0_ s2_ rfl rfl ⟨((HB.out.cell (World.block_lt_of_cell? w _ hw144_0)).trans hw144_0), ((HB.out.cell (World.block_lt_of_cell? w _ hw144_1)).trans hw144_1), ((HB.out.cell (World.block_lt_of_cell? w _ hw146_0)).trans hw146_0), ((HB.out.cell (World.block_lt_of_cell? w _ hw146_1)).trans hw146_1)⟩ (fun hHeld => ?_); refine with_tabW spec_l05Leases.tab4 spec_l05Leases.bits4 (fun HT_ HW_ => ?_)
 generalize wr.drew = w17 at HB hx144_0 hx144_1 hx146_0 hx146_1 hHeld ⊢
 refine pu_ 0 9 m1_ (any_of HT_.out s2_) ?_
 refine pu_ 1 10 m2_ (any_of HT_.out s2_) ?_
 refine pu_ 2 11 m3_ (any_of HT_.out s2_) ?_
 refine pu_ 3 12 m4_ (any_of HT_.out s2_) ?_
 refine take_ (i := 4) (N := some 13) (v := ?_) (a' := ?_) m5_ rfl rfl (take_ofW HT_.out HW_.out s2_) (fun _ _ _ h => h) (Or.inl ⟨by rfl, ?_⟩) hHeld ?_ ?_
 rotate_left
 {
 rintro w' ⟨s0, s1, s2, s3⟩
 go_simp
 with_reducible rfl}
 rotate_left
 · exact p1_
 refine one_ (i := 5) (N := some 14) m6_ rfl rfl (one_of HT_.out s2_) (by decide) (fun K hK => ?_)
 refine goes_ Try.func98 s2_ rfl #[.int .i64 ((rd_T63 l0 x6_1).f0)] (by rfl) rfl rfl s3_ ?_
 with_reducible refine (spec_l01Member.calls ((rd_T63 l0 x6_1).f0) true _ A5.out).mono ?_
 rintro e w' ⟨rfl, ⟨nd, rfl⟩⟩
 refine ⟨_, rfl, ?_⟩
 refine hK.out _ _ ⟨((HB.out.cell (World.block_lt_of_cell? w _ hw144_0)).trans hw144_0), ((HB.out.cell (World.block_lt_of_cell? w _ hw144_1)).trans hw144_1), ((HB.out.cell (World.block_lt_of_cell? w _ hw146_0)).trans hw146_0), ((HB.out.cell (World.block_lt_of_cell? w _ hw146_1)).trans hw146_1)⟩ (fun hHeld => ?_)
 clear hK K
 refine norm_ (a' := ?_) ?_ ?_
 rotate_left
 {
 show Act.put _ (some 14) _ = _
 simp only [Act.put, List.setIfInBounds_toArray, List.set_cons_zero, List.set_cons_succ, i64_w, i32_w]
 rfl}
 refine pu_ 6 15 m7_ (any_of HT_.out s2_) ?_
 refine pu_ 7 16 m8_ (any_of HT_.out s2_) ?_
 refine pu_ 8 17 m9_ (any_of HT_.out s2_) ?_
 refine pu_ 9 18 m10_ (any_of HT_.out s2_) ?_
 refine pu_ 10 19 m11_ (any_of HT_.out s2_) ?_
 refine pu_ 11 20 m12_ (any_of HT_.out s2_) ?_
 refine take_ (i := 12) (N := some 21) (v := ?_) (a' := ?_) m13_ rfl rfl (take_ofW HT_.out HW_.out s2_) (fun _ _ _ h => h) (Or.inl ⟨by rfl, ?_⟩) hHeld ?_ ?_
 rotate_left
 {
 rintro w' ⟨s0, s1, s2, s3⟩
 go_simp
 with_reducible rfl}
 rotate_left
 · exact p1_
 refine one_ (i := 13) (N := some 22) m14_ rfl rfl (one_of HT_.out s2_) (by decide) (fun K hK => ?_)
 refine goes_ Try.func58 s2_ rfl #[.int .i64 ((rd_T63 l0 x6_1).f1)] (by rfl) rfl rfl s3_ ?_
 with_reducible refine (spec_l01Tick.calls ((rd_T63 l0 x6_1).f1) false _ A7.out).mono ?_
 rintro e w' ⟨rfl, ⟨nd, rfl⟩⟩
 refine ⟨_, rfl, ?_⟩
 refine hK.out _ _ ⟨((HB.out.cell (World.block_lt_of_cell? w _ hw144_0)).trans hw144_0), ((HB.out.cell (World.block_lt_of_cell? w _ hw144_1)).trans hw144_1), ((HB.out.cell (World.block_lt_of_cell? w _ hw146_0)).trans hw146_0), ((HB.out.cell (World.block_lt_of_cell? w _ hw146_1)).trans hw146_1)⟩ (fun hHeld => ?_)
 clear hK K
 refine norm_ (a' := ?_) ?_ ?_
 rotate_left
 {
 show Act.put _ (some 22) _ = _
 simp only [Act.put, List.setIfInBounds_toArray, List.set_cons_zero, List.set_cons_succ, i64_w, i32_w]
 rfl}
 refine pu_ 14 23 m15_ (any_of HT_.out s2_) ?_
 refine pu_ 15 24 m16_ (any_of HT_.out s2_) ?_
 refine pu_ 16 25 m17_ (any_of HT_.out s2_) ?_
 refine pn_ 17 26 m18_ (any_of HT_.out s2_) ?_
 refine pn_ 18 27 m19_ (any_of HT_.out s2_) ?_
 refine pn_ 19 28 m20_ (any_of HT_.out s2_) ?_
 refine pn_ 20 29 m21_ (any_of HT_.out s2_) ?_
 refine pn_ 21 30 m22_ (any_of HT_.out s2_) ?_
 refine pn_ 22 31 m23_ (any_of HT_.out s2_) ?_
 refine pn_ 23 32 m24_ (any_of HT_.out s2_) ?_
 refine pn_ 24 33 m25_ (any_of HT_.out s2_) ?_
 refine pn_ 25 34 m35_ (any_of HT_.out s2_) ?_
 refine pn_ 26 35 m36_ (any_of HT_.out s2_) ?_
 refine pn_ 27 36 m37_ (any_of HT_.out s2_) ?_
 refine pn_ 28 37 m38_ (any_of HT_.out s2_) ?_
 refine pn_ 29 38 m30_ (any_of HT_.out s2_) ?_
 refine pn_ 30 39 m31_ (any_of HT_.out s2_) ?_
 refine pn_ 31 40 m32_ (any_of HT_.out s2_) ?_
 refine pn_ 32 41 m33_ (any_of HT_.out s2_) ?_
 refine pu_ 33 42 m34_ (any_of HT_.out s2_) ?_
 refine done_ (done_of HT_.out s2_) ?_
 try go_wp2
 go_ret
 exact ⟨e1_, y1_ HB.out⟩}}
 {
 replace c6 := Bool.eq_false_iff.mpr c6
 subst c6
 have H1 : (some false) = some r := by rw [if_neg (show ¬ (false = true) by decide)] at H; exact H
 clear H
 have H := H1
 clear H1
 obtain rfl := Option.some.inj H
 try go_wp2
 replace HB := A_ (below_drew1 HB.out)
 have p144 : 0 ≤ (x6_1 : Int) := o1_
 have q144 : x6_1 < (l0.length : Int) := o1_
 obtain ⟨ad144, e144, hx144_0, hx144_1⟩ := at_T63 HR0.out x6_1 p144 q144
 have hw144_1 := hx144_1
 have hw144_0 := hx144_0
 cases e144
 replace hx144_0 := (HB.out.cell (World.block_lt_of_cell? w _ hx144_0)).trans hx144_0
 replace hx144_1 := (HB.out.cell (World.block_lt_of_cell? w _ hx144_1)).trans hx144_1
 replace p144 := eq_true p144
 replace q144 := eq_true q144
 refine start_ (n := 34) (S := fun w' => w'.cell? (ad144.add ((x6_1).toNat * 2)) = some (.int .i64 ((rd_T63 l0 x6_1).f0)) ∧ w'.cell? ⟨(ad144.add ((x6_1).toNat * 2)).block, (ad144.add ((x6_1).toNat * 2)).off + 1, none⟩ = some (.int .i64 ((rd_T63 l0 x6_1).f1))) (ds := []) m0_ s2_ rfl rfl ⟨((HB.out.cell (World.block_lt_of_cell? w _ hw144_0)).trans hw144_0), ((HB.out.cell (World.block_lt_of_cell? w _ hw144_1)).trans hw144_1)⟩ (fun hHeld => ?_); refine with_tabW spec_l05Leases.tab4 spec_l05Leases.bits4 (fun HT_ HW_ => ?_)
 generalize wr.drew = w18 at HB hx144_0 hx144_1 hHeld ⊢
 refine pu_ 0 9 m1_ (any_of HT_.out s2_) ?_
 refine pu_ 1 10 m2_ (any_of HT_.out s2_) ?_
 refine pu_ 2 11 m3_ (any_of HT_.out s2_) ?_
 refine pu_ 3 12 m4_ (any_of HT_.out s2_) ?_
 refine take_ (i := 4) (N := some 13) (v := ?_) (a' := ?_) m5_ rfl rfl (take_ofW HT_.out HW_.out s2_) (fun _ _ _ h => h) (Or.inl ⟨by rfl, ?_⟩) hHeld ?_ ?_
 rotate_left
 {
 rintro w' ⟨s0, s1⟩
 go_simp
 with_reducible rfl}
 rotate_left
 · exact p1_
 refine one_ (i := 5) (N := some 14) m6_ rfl rfl (one_of HT_.out s2_) (by decide) (fun K hK => ?_)
 refine goes_ Try.func98 s2_ rfl #[.int .i64 ((rd_T63 l0 x6_1).f0)] (by rfl) rfl rfl s3_ ?_
 with_reducible refine (spec_l01Member.calls ((rd_T63 l0 x6_1).f0) false _ A5.out).mono ?_
 rintro e w' ⟨rfl, ⟨nd, rfl⟩⟩
 refine ⟨_, rfl, ?_⟩
 refine hK.out _ _ ⟨((HB.out.cell (World.block_lt_of_cell? w _ hw144_0)).trans hw144_0), ((HB.out.cell (World.block_lt_of_cell? w _ hw144_1)).trans hw144_1)⟩ (fun hHeld => ?_)
 clear hK K
 refine norm_ (a' := ?_) ?_ ?_
 rotate_left
 {
 show Act.put _ (some 14) _ = _
 simp only [Act.put, List.setIfInBounds_toArray, List.set_cons_zero, List.set_cons_succ, i64_w, i32_w]
 rfl}
 refine pu_ 6 15 m7_ (any_of HT_.out s2_) ?_
 refine pu_ 7 16 m8_ (any_of HT_.out s2_) ?_
 refine pn_ 8 17 m9_ (any_of HT_.out s2_) ?_
 refine pn_ 9 18 m10_ (any_of HT_.out s2_) ?_
 refine pn_ 10 19 m11_ (any_of HT_.out s2_) ?_
 refine pn_ 11 20 m12_ (any_of HT_.out s2_) ?_
 refine pn_ 12 21 m13_ (any_of HT_.out s2_) ?_
 refine pn_ 13 22 m14_ (any_of HT_.out s2_) ?_
 refine pn_ 14 23 m15_ (any_of HT_.out s2_) ?_
 refine pu_ 15 24 m16_ (any_of HT_.out s2_) ?_
 refine pu_ 16 25 m17_ (any_of HT_.out s2_) ?_
 refine pn_ 17 26 m18_ (any_of HT_.out s2_) ?_
 refine pn_ 18 27 m19_ (any_of HT_.out s2_) ?_
 refine pn_ 19 28 m20_ (any_of HT_.out s2_) ?_
 refine pn_ 20 29 m21_ (any_of HT_.out s2_) ?_
 refine pn_ 21 30 m22_ (any_of HT_.out s2_) ?_
 refine pn_ 22 31 m23_ (any_of HT_.out s2_) ?_
 refine pn_ 23 32 m24_ (any_of HT_.out s2_) ?_
 refine pn_ 24 33 m25_ (any_of HT_.out s2_) ?_
 refine pn_ 25 34 m35_ (any_of HT_.out s2_) ?_
 refine pn_ 26 35 m36_ (any_of HT_.out s2_) ?_
 refine pn_ 27 36 m37_ (any_of HT_.out s2_) ?_
 refine pn_ 28 37 m38_ (any_of HT_.out s2_) ?_
 refine pn_ 29 38 m30_ (any_of HT_.out s2_) ?_
 refine pn_ 30 39 m31_ (any_of HT_.out s2_) ?_
 refine pn_ 31 40 m32_ (any_of HT_.out s2_) ?_
 refine pn_ 32 41 m33_ (any_of HT_.out s2_) ?_
 refine pu_ 33 42 m34_ (any_of HT_.out s2_) ?_
 refine done_ (done_of HT_.out s2_) ?_
 try go_wp2
 go_ret
 exact ⟨e1_, y1_ HB.out⟩}}
 {
 rw [if_neg c4] at H
 exact absurd H (by simp)}}
 {
 rw [if_neg c3] at H
 exact absurd H (by simp)}}
 {
 rw [if_neg c2] at H
 have c2b0 : decide (x6_1 < (l0.length : Int)) = false := decide_eq_false c2
 clear c2
 obtain rfl := Option.some.inj H
 go_wp2
 go_ret
 exact ⟨e1_, y1_ HB.out⟩}}}

end Go.Proofs.Ytgfilednbllkmaa.QFnJoinedPresence
