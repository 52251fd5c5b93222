-- written by a program of this session, on the lines of the kit's print
import Derived.Test.YtgfilednbllkmaaQFnExactStartTypingx0
import Derived.Test.YtgfilednbllkmaaQFnExactStartTypingx8
namespace Go.Proofs.Ytgfilednbllkmaa.QFnExactStartTyping
open Go.RowKit Go.Proofs.YtgfilednbllkmaaW.PrintWords Go.Proofs.YtgfilednbllkmaaW.PrintLast Go.Proofs.YtgfilednbllkmaaW.PrintMore
attribute [local go_sem] max2_int min2_int max_two min_two max_three min_three max_four min_four   -- for this text's walks alone
set_option linter.unusedVariables false
set_option linter.unusedSimpArgs false

/-! ### spec_l05Leases: function 100 -/
abbrev spec_l05Leases.T : Bool := true
abbrev spec_l05Leases.F : Bool := false
theorem spec_l05Leases.s1_ {P : Prop} (h : P := by first | rfl | (simp; done) | (simp [*]; done)) : P := h
theorem spec_l05Leases.s2_ {P : Prop} (h : P := by kernel_rfl) : P := h
theorem spec_l05Leases.s3_ {P : Prop} (h : P := by (try simp only [List.map_toArray, List.map_cons, List.map_nil]); first | done | rfl | (simp only [List.length_drop, List.length_take]; rfl)) : P := h
abbrev spec_l05Leases.m0_ : Array Bool := #[F,F,F,F,F,F,F,F,F,F,F,F,F,F,F,F,F,F,F,F,F,F,F,F,F,F,F,F,F,F,F,F,F,F]
abbrev spec_l05Leases.m1_ : Array Bool := #[T,F,F,F,F,F,F,F,F,F,F,F,F,F,F,F,F,F,F,F,F,F,F,F,F,F,F,F,F,F,F,F,F,F]
abbrev spec_l05Leases.m2_ : Array Bool := #[T,T,F,F,F,F,F,F,F,F,F,F,F,F,F,F,F,F,F,F,F,F,F,F,F,F,F,F,F,F,F,F,F,F]
abbrev spec_l05Leases.m3_ : Array Bool := #[T,T,T,F,F,F,F,F,F,F,F,F,F,F,F,F,F,F,F,F,F,F,F,F,F,F,F,F,F,F,F,F,F,F]
abbrev spec_l05Leases.m4_ : Array Bool := #[T,T,T,T,F,F,F,F,F,F,F,F,F,F,F,F,F,F,F,F,F,F,F,F,F,F,F,F,F,F,F,F,F,F]
abbrev spec_l05Leases.m5_ : Array Bool := #[T,T,T,T,T,F,F,F,F,F,F,F,F,F,F,F,F,F,F,F,F,F,F,F,F,F,F,F,F,F,F,F,F,F]
abbrev spec_l05Leases.m6_ : Array Bool := #[T,T,T,T,T,T,F,F,F,F,F,F,F,F,F,F,F,F,F,F,F,F,F,F,F,F,F,F,F,F,F,F,F,F]
abbrev spec_l05Leases.m7_ : Array Bool := #[T,T,T,T,T,T,T,F,F,F,F,F,F,F,F,F,F,F,F,F,F,F,F,F,F,F,F,F,F,F,F,F,F,F]
abbrev spec_l05Leases.m8_ : Array Bool := #[T,T,T,T,T,T,T,T,F,F,F,F,F,F,F,F,F,F,F,F,F,F,F,F,F,F,F,F,F,F,F,F,F,F]
abbrev spec_l05Leases.m9_ : Array Bool := #[T,T,T,T,T,T,T,T,T,F,F,F,F,F,F,F,F,F,F,F,F,F,F,F,F,F,F,F,F,F,F,F,F,F]
abbrev spec_l05Leases.m10_ : Array Bool := #[T,T,T,T,T,T,T,T,T,T,F,F,F,F,F,F,F,F,F,F,F,F,F,F,F,F,F,F,F,F,F,F,F,F]
abbrev spec_l05Leases.m11_ : Array Bool := #[T,T,T,T,T,T,T,T,T,T,T,F,F,F,F,F,F,F,F,F,F,F,F,F,F,F,F,F,F,F,F,F,F,F]
abbrev spec_l05Leases.m12_ : Array Bool := #[T,T,T,T,T,T,T,T,T,T,T,T,F,F,F,F,F,F,F,F,F,F,F,F,F,F,F,F,F,F,F,F,F,F]
abbrev spec_l05Leases.m13_ : Array Bool := #[T,T,T,T,T,T,T,T,T,T,T,T,T,F,F,F,F,F,F,F,F,F,F,F,F,F,F,F,F,F,F,F,F,F]
abbrev spec_l05Leases.m14_ : Array Bool := #[T,T,T,T,T,T,T,T,T,T,T,T,T,T,F,F,F,F,F,F,F,F,F,F,F,F,F,F,F,F,F,F,F,F]
abbrev spec_l05Leases.m15_ : Array Bool := #[T,T,T,T,T,T,T,T,T,T,T,T,T,T,T,F,F,F,F,F,F,F,F,F,F,F,F,F,F,F,F,F,F,F]
abbrev spec_l05Leases.m16_ : Array Bool := #[T,T,T,T,T,T,T,T,T,T,T,T,T,T,T,T,F,F,F,F,F,F,F,F,F,F,F,F,F,F,F,F,F,F]
abbrev spec_l05Leases.m17_ : Array Bool := #[T,T,T,T,T,T,T,T,T,T,T,T,T,T,T,T,T,F,F,F,F,F,F,F,F,F,F,F,F,F,F,F,F,F]
abbrev spec_l05Leases.m18_ : Array Bool := #[T,T,T,T,T,T,T,T,T,T,T,T,T,T,T,T,T,T,F,F,F,F,F,F,F,F,F,F,F,F,F,F,F,F]
abbrev spec_l05Leases.m19_ : Array Bool := #[T,T,T,T,T,T,T,T,T,T,T,T,T,T,T,T,T,T,T,F,F,F,F,F,F,F,F,F,F,F,F,F,F,F]
abbrev spec_l05Leases.m20_ : Array Bool := #[T,T,T,T,T,T,T,T,T,T,T,T,T,T,T,T,T,T,T,T,F,F,F,F,F,F,F,F,F,F,F,F,F,F]
abbrev spec_l05Leases.m21_ : Array Bool := #[T,T,T,T,T,T,T,T,T,T,T,T,T,T,T,T,T,T,T,T,T,F,F,F,F,F,F,F,F,F,F,F,F,F]
abbrev spec_l05Leases.m22_ : Array Bool := #[T,T,T,T,T,T,T,T,T,T,T,T,T,T,T,T,T,T,T,T,T,T,F,F,F,F,F,F,F,F,F,F,F,F]
abbrev spec_l05Leases.m23_ : Array Bool := #[T,T,T,T,T,T,T,T,T,T,T,T,T,T,T,T,T,T,T,T,T,T,T,F,F,F,F,F,F,F,F,F,F,F]
abbrev spec_l05Leases.m24_ : Array Bool := #[T,T,T,T,T,T,T,T,T,T,T,T,T,T,T,T,T,T,T,T,T,T,T,T,F,F,F,F,F,F,F,F,F,F]
abbrev spec_l05Leases.m25_ : Array Bool := #[T,T,T,T,T,T,T,T,T,T,T,T,T,T,T,T,T,T,T,T,T,T,T,T,T,F,F,F,F,F,F,F,F,F]
abbrev spec_l05Leases.m26_ : Array Bool := #[T,T,T,T,T,T,T,T,T,T,T,T,T,T,T,T,T,T,T,T,T,T,T,T,T,T,T,T,T,T,F,F,F,F]
abbrev spec_l05Leases.m27_ : Array Bool := #[T,T,T,T,T,T,T,T,T,T,T,T,T,T,T,T,T,T,T,T,T,T,T,T,T,T,T,T,T,T,T,F,F,F]
abbrev spec_l05Leases.m28_ : Array Bool := #[T,T,T,T,T,T,T,T,T,T,T,T,T,T,T,T,T,T,T,T,T,T,T,T,T,T,T,T,T,T,T,T,F,F]
abbrev spec_l05Leases.m29_ : Array Bool := #[T,T,T,T,T,T,T,T,T,T,T,T,T,T,T,T,T,T,T,T,T,T,T,T,T,T,T,T,T,T,T,T,T,F]
abbrev spec_l05Leases.m30_ : Array Bool := #[T,T,T,T,T,T,T,T,T,T,T,T,T,T,T,T,T,T,T,T,T,T,T,T,T,T,T,T,T,T,T,T,T,T]
abbrev spec_l05Leases.m31_ : Array Bool := #[T,T,T,T,T,T,T,T,T,T,T,T,T,T,T,T,T,T,T,T,T,T,T,T,T,T,F,F,F,F,F,F,F,F]
abbrev spec_l05Leases.m32_ : Array Bool := #[T,T,T,T,T,T,T,T,T,T,T,T,T,T,T,T,T,T,T,T,T,T,T,T,T,T,T,F,F,F,F,F,F,F]
abbrev spec_l05Leases.m33_ : Array Bool := #[T,T,T,T,T,T,T,T,T,T,T,T,T,T,T,T,T,T,T,T,T,T,T,T,T,T,T,T,F,F,F,F,F,F]
abbrev spec_l05Leases.m34_ : Array Bool := #[T,T,T,T,T,T,T,T,T,T,T,T,T,T,T,T,T,T,T,T,T,T,T,T,T,T,T,T,T,F,F,F,F,F]
theorem spec_l05Leases.p1_ {P : Prop} (h : P := by simp only [Act.put, List.setIfInBounds_toArray, List.set_cons_zero, List.set_cons_succ, i64_w, i32_w]; rfl) : P := h
theorem spec_l05Leases.pu_ {P : Program} {md : Region.Mode} {ops : Array Oper} {Q : Exit → Act → World → Prop} {S : World → Prop} {ds : List Nat} {fuel : Nat} {l : Array Bool} {a : Act} {w : World} {oi : Oper} {a' : Act} {v : Value} (i N : Nat) (l' : Array Bool) (hc : anyB md ops l l' i = true) (h : wpAnyLast P md ops Q S ds fuel l' a' w) (hi : ops[i]? = some oi := by rfl) (hN : oi.dst = some N := by rfl) (hQ : ∀ c a w, Q (.panic c) (a.put oi.dst v) w → Q (.panic c) a w := by exact fun _ _ _ h => h) (hy : Yields P ops oi v a := by exact Or.inl ⟨by rfl, by intro w'; go_simp; with_reducible rfl⟩) (ha : a.put (some N) v = a' := by simp only [Act.put, List.setIfInBounds_toArray, List.set_cons_zero, List.set_cons_succ, i64_w, i32_w]; rfl) : wpAnyLast P md ops Q S ds (fuel + 1) l a w := pure_ l' hi hN hc hQ hy ha h
theorem spec_l05Leases.pn_ {P : Program} {md : Region.Mode} {ops : Array Oper} {Q : Exit → Act → World → Prop} {S : World → Prop} {ds : List Nat} {fuel : Nat} {l : Array Bool} {a : Act} {w : World} {oi : Oper} {a' : Act} (i N : Nat) (l' : Array Bool) (hc : anyB md ops l l' i = true) (h : wpAnyLast P md ops Q S ds fuel l' a' w) (hi : ops[i]? = some oi := by rfl) (hN : oi.dst = some N := by rfl) (hQ : ∀ c a w, Q (.panic c) (a.put oi.dst undef) w → Q (.panic c) a w := by exact fun _ _ _ h => h) (hy : Yields P ops oi undef a := by exact Or.inr ⟨by rfl, rfl⟩) (ha : a.put (some N) undef = a' := by simp only [Act.put, List.setIfInBounds_toArray, List.set_cons_zero, List.set_cons_succ, i64_w, i32_w]; rfl) : wpAnyLast P md ops Q S ds (fuel + 1) l a w := pure_ l' hi hN hc hQ hy ha h
mutual
def spec_l05Leases.l0 : Nat → List (S63) → Int → Int → Option (Bool)
  | 0, _, _, _ => none
  | k + 1, x0, x5, x6 => if x6 < x5 then (if 0 ≤ x6 then (if x6 < (x0.length : Int) then ((spec_l01Member.f ((rd_T63 x0 x6).f0)).bind fun t235 => (if t235 = true then ((spec_l01Tick.f ((rd_T63 x0 x6).f1)).bind fun t237 => (if t237 = true then (if x6 > 0 then (if 0 ≤ (wrap64 (x6 - 1)) then (if (wrap64 (x6 - 1)) < (x0.length : Int) then (spec_l05Leases.j1 k x0 x5 x6 (decide (((rd_T63 x0 (wrap64 (x6 - 1))).f0) ≥ ((rd_T63 x0 x6).f0)))) else (none)) else (none)) else (spec_l05Leases.j1 k x0 x5 x6 false)) else (spec_l05Leases.j1 k x0 x5 x6 true))) else (spec_l05Leases.j1 k x0 x5 x6 true))) else (none)) else (none)) else (some (decide ((x0.length : Int) ≤ 30)))
def spec_l05Leases.j1 : Nat → List (S63) → Int → Int → Bool → Option (Bool)
  | 0, _, _, _, _ => none
  | k + 1, x0, x5, x6, x42 => if x42 = true then (some false) else (spec_l05Leases.l0 k x0 x5 (wrap64 (x6 + 1)))
end
def spec_l05Leases.f (k : Nat) (l0 : List (S63)) : Option (Bool) := spec_l05Leases.l0 k l0 (l0.length : Int) 0
theorem spec_l05Leases.mono_l : ∀ k, (∀ y0 y1 y2, LeO (spec_l05Leases.l0 k y0 y1 y2) (spec_l05Leases.l0 (k + 1) y0 y1 y2)) ∧ (∀ y0 y1 y2 y3, LeO (spec_l05Leases.j1 k y0 y1 y2 y3) (spec_l05Leases.j1 (k + 1) y0 y1 y2 y3))
  | 0 => ⟨fun _ _ _ r h => by simp [spec_l05Leases.l0] at h, fun _ _ _ _ r h => by simp [spec_l05Leases.j1] at h⟩
  | k + 1 => by
    obtain ⟨ih0, ih1⟩ := spec_l05Leases.mono_l k
    refine ⟨?_, ?_⟩
    · intro y0 y1 y2
      unfold spec_l05Leases.l0
      repeat' first
      | (with_reducible exact ih0 _ _ _)
      | (with_reducible exact ih1 _ _ _ _)
      | (with_reducible exact LeO.refl _)
      | (with_reducible exact LeO.none _)
      | (with_reducible refine LeO.ite ?_ ?_)
      | (with_reducible refine LeO.bind ?_ (fun _ => ?_))
      | exact ih0 _ _ _
      | exact ih1 _ _ _ _
      | exact LeO.none _
      | refine LeO.ite ?_ ?_
      | refine LeO.bind ?_ (fun _ => ?_)
    · intro y0 y1 y2 y3
      unfold spec_l05Leases.j1
      repeat' first
      | (with_reducible exact ih0 _ _ _)
      | (with_reducible exact ih1 _ _ _ _)
      | (with_reducible exact LeO.refl _)
      | (with_reducible exact LeO.none _)
      | (with_reducible refine LeO.ite ?_ ?_)
      | (with_reducible refine LeO.bind ?_ (fun _ => ?_))
      | exact ih0 _ _ _
      | exact ih1 _ _ _ _
      | exact LeO.none _
      | refine LeO.ite ?_ ?_
      | refine LeO.bind ?_ (fun _ => ?_)
theorem spec_l05Leases.mono : ∀ a0 k, LeO (spec_l05Leases.f k a0) (spec_l05Leases.f (k + 1) a0) := by
  intro a0 k
  obtain ⟨ih0, ih1⟩ := spec_l05Leases.mono_l k
  unfold spec_l05Leases.f
  repeat' first
      | (with_reducible exact ih0 _ _ _)
      | (with_reducible exact ih1 _ _ _ _)
      | (with_reducible exact LeO.refl _)
      | (with_reducible exact LeO.none _)
      | (with_reducible refine LeO.ite ?_ ?_)
      | (with_reducible refine LeO.bind ?_ (fun _ => ?_))
      | exact ih0 _ _ _
      | exact ih1 _ _ _ _
      | exact LeO.none _
      | refine LeO.ite ?_ ?_
      | refine LeO.bind ?_ (fun _ => ?_)
def spec_l05Leases.T4 : Bool × List (List Nat × List Nat) := (true, [([], []), ([], []), ([0, 1], [0, 1]), ([2], [2]), ([3], [3]), ([4], [4]), ([5], [5]), ([6, 5], [6]), ([7], [7]), ([7], [7]), ([8, 9, 7], [7, 8, 9]), ([10, 7], [7, 10]), ([11, 7], [7, 11]), ([12, 7, 7], [7, 12]), ([13, 7], [7, 13]), ([7, 14], [7, 14]), ([15, 13], [15]), ([16], [16]), ([17, 16], [16, 17]), ([18, 16, 16], [16, 18]), ([19], [19]), ([19], [19]), ([21, 19], [19, 21]), ([20, 22, 19], [19, 20, 22]), ([23, 19], [19, 23]), ([24, 19], [19, 24]), ([19], [19]), ([19], [19]), ([26, 27, 19], [19, 26, 27]), ([28, 19], [19, 28]), ([29, 19], [19, 29]), ([25, 30, 19], [19, 25, 30]), ([19, 31, 16], [16, 19, 31]), ([16, 32], [16, 32])])
def spec_l05Leases.B4 : List Nat := [0, 0, 3, 7, 15, 31, 63, 127, 255, 255, 1023, 2047, 4095, 8191, 16383, 32767, 65535, 131071, 262143, 524287, 1048575, 1048575, 3145727, 8388607, 16777215, 33554431, 1048575, 1048575, 202375167, 470810623, 1007681535, 2147483647, 4294967295, 8589934591]
theorem spec_l05Leases.tab4 : rtab .any (opsOf Try.f100 4) = spec_l05Leases.T4 := by kernel_rfl
theorem spec_l05Leases.bits4 : waitsOk spec_l05Leases.T4.2 spec_l05Leases.B4 = true := by kernel_rfl
set_option maxHeartbeats 8000000 in
set_option maxRecDepth 100000 in
theorem spec_l05Leases.calls (k : Nat) (A0 : Option Addr) (c0 : Nat) (l0 : List (S63)) (r : Bool) (w : World) (hr0 : Kd.C k63 w A0 l0.length l0) (hc0 : l0.length ≤ c0) (h : spec_l05Leases.f k l0 = some r) :
    Calls Try.prog 100 #[.slice A0 l0.length c0] w fun e w' => e = .returned (.bool r) ∧ Below w.heap.size w w' := by
 have HR0 := Aside0.mk hr0
 have HC0 := Aside0.mk hc0
 clear hr0 hc0
 have HB := Aside0.mk (Below.refl w.heap.size w)
 have H : (spec_l05Leases.l0 k l0 (l0.length : Int) 0) = some r := h
 clear h
 have H' := Aside0.mk H
 clear H
 go_enter Try.func100, Try.ntmps100
 go_wp2
 go_loopg [6] k (fun kq v6 w' => ∃ (x6_1 : Int), v6 = .int .i64 x6_1 ∧ Aside0 (spec_l05Leases.l0 kq l0 (l0.length : Int) x6_1 = some r) ∧ Aside0 (kq ≤ k) ∧ Aside0 (Below w.heap.size w w'))
 case atStart => exact ⟨(0), s1_, H', ⟨Nat.le_refl _⟩, ⟨by repeat (first | (with_reducible first | exact HB.out | apply below_alloc | apply pw_below_drewN | apply below_drew1) | exact HB.out)⟩⟩
 case round =>
  skip
  {
 clear H'
 try clear c1
 obtain ⟨x6_1, rfl, HA, HK1, HB⟩ := hrel
 cases gk with
 | zero => exact absurd HA.out (by simp [spec_l05Leases.l0])
 | succ k1 =>
  skip
  {
 have H := HA.out
 clear HA
 simp only [spec_l05Leases.l0] at H
 by_cases c2 : x6_1 < (l0.length : Int)
 {
 rw [if_pos c2] at H
 have c2b0 : decide (x6_1 < (l0.length : Int)) = true := decide_eq_true c2
 clear c2
 have HC3 := Aside0.mk H
 clear H
 go_upto_region 4 with (fail)
 go_cut [42] (fun v42 wc => ∃ (kq : Nat) (x42_2 : Bool), v42 = .bool x42_2 ∧ Aside0 (spec_l05Leases.j1 kq l0 (l0.length : Int) x6_1 x42_2 = some r) ∧ Aside0 (kq ≤ k1) ∧ Aside0 (Below w.heap.size w wc))
 case first =>
  skip
  {
 have H := HC3.out
 clear HC3
 by_cases c4 : 0 ≤ x6_1
 {
 rw [if_pos c4] at H
 have c4b0 : decide (0 ≤ x6_1) = true := decide_eq_true c4
 clear c4
 (first | rw [c4b0] | (simp only [i64_w, i32_w]; rw [c4b0]) | skip)
 by_cases c5 : x6_1 < (l0.length : Int)
 {
 rw [if_pos c5] at H
 have c5b0 : decide (x6_1 < (l0.length : Int)) = true := decide_eq_true c5
 clear c5
 replace H := Option.bind_eq_some_iff.mp H
 obtain ⟨t235, A60, H⟩ := H
 replace H : (if t235 = true then ((spec_l01Tick.f ((rd_T63 l0 x6_1).f1)).bind fun t237 => (if t237 = true then (if x6_1 > 0 then (if 0 ≤ (wrap64 (x6_1 - 1)) then (if (wrap64 (x6_1 - 1)) < (l0.length : Int) then (spec_l05Leases.j1 k1 l0 (l0.length : Int) x6_1 (decide (((rd_T63 l0 (wrap64 (x6_1 - 1))).f0) ≥ ((rd_T63 l0 x6_1).f0)))) else (none)) else (none)) else (spec_l05Leases.j1 k1 l0 (l0.length : Int) x6_1 false)) else (spec_l05Leases.j1 k1 l0 (l0.length : Int) x6_1 true))) else (spec_l05Leases.j1 k1 l0 (l0.length : Int) x6_1 true)) = some r := H
 have A6 := Aside0.mk A60
 clear A60
 by_cases c7 : t235 = true
 {
 subst c7
 have H1 : ((spec_l01Tick.f ((rd_T63 l0 x6_1).f1)).bind fun t237 => (if t237 = true then (if x6_1 > 0 then (if 0 ≤ (wrap64 (x6_1 - 1)) then (if (wrap64 (x6_1 - 1)) < (l0.length : Int) then (spec_l05Leases.j1 k1 l0 (l0.length : Int) x6_1 (decide (((rd_T63 l0 (wrap64 (x6_1 - 1))).f0) ≥ ((rd_T63 l0 x6_1).f0)))) else (none)) else (none)) else (spec_l05Leases.j1 k1 l0 (l0.length : Int) x6_1 false)) else (spec_l05Leases.j1 k1 l0 (l0.length : Int) x6_1 true))) = some r := by rw [if_pos rfl] at H; exact H
 clear H
 have H := H1
 clear H1
 replace H := Option.bind_eq_some_iff.mp H
 obtain ⟨t237, A80, H⟩ := H
 replace H : (if t237 = true then (if x6_1 > 0 then (if 0 ≤ (wrap64 (x6_1 - 1)) then (if (wrap64 (x6_1 - 1)) < (l0.length : Int) then (spec_l05Leases.j1 k1 l0 (l0.length : Int) x6_1 (decide (((rd_T63 l0 (wrap64 (x6_1 - 1))).f0) ≥ ((rd_T63 l0 x6_1).f0)))) else (none)) else (none)) else (spec_l05Leases.j1 k1 l0 (l0.length : Int) x6_1 false)) else (spec_l05Leases.j1 k1 l0 (l0.length : Int) x6_1 true)) = some r := H
 have A8 := Aside0.mk A80
 clear A80
 by_cases c9 : t237 = true
 {
 subst c9
 have H1 : (if x6_1 > 0 then (if 0 ≤ (wrap64 (x6_1 - 1)) then (if (wrap64 (x6_1 - 1)) < (l0.length : Int) then (spec_l05Leases.j1 k1 l0 (l0.length : Int) x6_1 (decide (((rd_T63 l0 (wrap64 (x6_1 - 1))).f0) ≥ ((rd_T63 l0 x6_1).f0)))) else (none)) else (none)) else (spec_l05Leases.j1 k1 l0 (l0.length : Int) x6_1 false)) = some r := by rw [if_pos rfl] at H; exact H
 clear H
 have H := H1
 clear H1
 by_cases c10 : x6_1 > 0
 {
 rw [if_pos c10] at H
 have c10b0 : decide (0 < x6_1) = true := decide_eq_true c10
 clear c10
 obtain ⟨ji11, hji11⟩ : ∃ j_ : Int, (wrap64 (x6_1 - 1)) = j_ := ⟨_, rfl⟩
 replace H : (if 0 ≤ (ji11) then (if (ji11) < (l0.length : Int) then (spec_l05Leases.j1 k1 l0 (l0.length : Int) x6_1 (decide (((rd_T63 l0 (ji11)).f0) ≥ ((rd_T63 l0 x6_1).f0)))) else (none)) else (none)) = some r := by first | (rw [hji11] at H; exact H) | (simp only [hji11] at H ⊢; exact H)
 (try rw [hji11] at A6)
 (try rw [hji11] at A8)
 have hji11w : (IntKind.i64.wrap (x6_1 - 1)) = ji11 := (i64_w _).trans hji11
 by_cases c12 : 0 ≤ (ji11)
 {
 rw [if_pos c12] at H
 have c12b0 : decide (0 ≤ (ji11)) = true := decide_eq_true c12
 clear c12
 by_cases c13 : (ji11) < (l0.length : Int)
 {
 rw [if_pos c13] at H
 have c13b0 : decide ((ji11) < (l0.length : Int)) = true := decide_eq_true c13
 clear c13
 have H' := Aside0.mk H
 clear H
 try go_wp2
 replace HB := Aside0.mk (below_drew1 HB.out)
 have p234 : 0 ≤ (x6_1 : Int) := of_decide_eq_true (by first | (with_reducible assumption) | assumption)
 have q234 : x6_1 < (l0.length : Int) := of_decide_eq_true (by first | (with_reducible assumption) | assumption)
 obtain ⟨ad234, e234, hx234_0, hx234_1⟩ := at_T63 HR0.out x6_1 p234 q234
 have hw234_1 := hx234_1
 have hw234_0 := hx234_0
 cases e234
 replace hx234_0 := (HB.out.cell (World.block_lt_of_cell? w _ hx234_0)).trans hx234_0
 replace hx234_1 := (HB.out.cell (World.block_lt_of_cell? w _ hx234_1)).trans hx234_1
 replace p234 := eq_true p234
 replace q234 := eq_true q234
 have p236 : 0 ≤ (x6_1 : Int) := of_decide_eq_true (by first | (with_reducible assumption) | assumption)
 have q236 : x6_1 < (l0.length : Int) := of_decide_eq_true (by first | (with_reducible assumption) | assumption)
 obtain ⟨ad236, e236, hx236_0, hx236_1⟩ := at_T63 HR0.out x6_1 p236 q236
 have hw236_1 := hx236_1
 have hw236_0 := hx236_0
 obtain rfl : ad234 = ad236 := (by injection e236)
 replace hx236_0 := (HB.out.cell (World.block_lt_of_cell? w _ hx236_0)).trans hx236_0
 replace hx236_1 := (HB.out.cell (World.block_lt_of_cell? w _ hx236_1)).trans hx236_1
 replace p236 := eq_true p236
 replace q236 := eq_true q236
 have p238 : 0 ≤ ((ji11) : Int) := of_decide_eq_true (by first | (with_reducible assumption) | assumption)
 have q238 : (ji11) < (l0.length : Int) := of_decide_eq_true (by first | (with_reducible assumption) | assumption)
 obtain ⟨ad238, e238, hx238_0, hx238_1⟩ := at_T63 HR0.out (ji11) p238 q238
 have hw238_1 := hx238_1
 have hw238_0 := hx238_0
 obtain rfl : ad234 = ad238 := (by injection e238)
 replace hx238_0 := (HB.out.cell (World.block_lt_of_cell? w _ hx238_0)).trans hx238_0
 replace hx238_1 := (HB.out.cell (World.block_lt_of_cell? w _ hx238_1)).trans hx238_1
 replace p238 := eq_true p238
 replace q238 := eq_true q238
 have p239 : 0 ≤ (x6_1 : Int) := of_decide_eq_true (by first | (with_reducible assumption) | assumption)
 have q239 : x6_1 < (l0.length : Int) := of_decide_eq_true (by first | (with_reducible assumption) | assumption)
 obtain ⟨ad239, e239, hx239_0, hx239_1⟩ := at_T63 HR0.out x6_1 p239 q239
 have hw239_1 := hx239_1
 have hw239_0 := hx239_0
 obtain rfl : ad234 = ad239 := (by injection e239)
 replace hx239_0 := (HB.out.cell (World.block_lt_of_cell? w _ hx239_0)).trans hx239_0
 replace hx239_1 := (HB.out.cell (World.block_lt_of_cell? w _ hx239_1)).trans hx239_1
 replace p239 := eq_true p239
 replace q239 := eq_true q239
 refine start_ (n := 34) (S := fun w' => w'.cell? (ad234.add ((x6_1).toNat * 2)) = some (.int .i64 ((rd_T63 l0 x6_1).f0)) ∧ w'.cell? ⟨(ad234.add ((x6_1).toNat * 2)).block, (ad234.add ((x6_1).toNat * 2)).off + 1, none⟩ = some (.int .i64 ((rd_T63 l0 x6_1).f1)) ∧ w'.cell? (ad234.add ((x6_1).toNat * 2)) = some (.int .i64 ((rd_T63 l0 x6_1).f0)) ∧ w'.cell? ⟨(ad234.add ((x6_1).toNat * 2)).block, (ad234.add ((x6_1).toNat * 2)).off + 1, none⟩ = some (.int .i64 ((rd_T63 l0 x6_1).f1)) ∧ w'.cell? (ad234.add (((ji11)).toNat * 2)) = some (.int .i64 ((rd_T63 l0 (ji11)).f0)) ∧ w'.cell? ⟨(ad234.add (((ji11)).toNat * 2)).block, (ad234.add (((ji11)).toNat * 2)).off + 1, none⟩ = some (.int .i64 ((rd_T63 l0 (ji11)).f1)) ∧ w'.cell? (ad234.add ((x6_1).toNat * 2)) = some (.int .i64 ((rd_T63 l0 x6_1).f0)) ∧ w'.cell? ⟨(ad234.add ((x6_1).toNat * 2)).block, (ad234.add ((x6_1).toNat * 2)).off + 1, none⟩ = some (.int .i64 ((rd_T63 l0 x6_1).f1))) (ds := []) m0_ s2_ rfl rfl ⟨((HB.out.cell (World.block_lt_of_cell? w _ hw234_0)).trans hw234_0), ((HB.out.cell (World.block_lt_of_cell? w _ hw234_1)).trans hw234_1), ((HB.out.cell (World.block_lt_of_cell? w _ hw236_0)).trans hw236_0), ((HB.out.cell (World.block_lt_of_cell? w _ hw236_1)).trans hw236_1), ((HB.out.cell (World.block_lt_of_cell? w _ hw238_0)).trans hw238_0), ((HB.out.cell (World.block_lt_of_cell? w _ hw238_1)).trans hw238_1), ((HB.out.cell (World.block_lt_of_cell? w _ hw239_0)).trans hw239_0), ((HB.out.cell (World.block_lt_of_cell? w _ hw239_1)).trans hw239_1)⟩ (fun hHeld => ?_); refine with_tabW spec_l05Leases.tab4 spec_l05Leases.bits4 (fun HT_ HW_ => ?_)
 generalize wr.drew = w14 at HB hx234_0 hx234_1 hx236_0 hx236_1 hx238_0 hx238_1 hx239_0 hx239_1 hHeld ⊢
 refine pu_ 0 9 m1_ (any_of HT_.out s2_) ?_
 refine pu_ 1 10 m2_ (any_of HT_.out s2_) ?_
 refine pu_ 2 11 m3_ (any_of HT_.out s2_) ?_
 refine pu_ 3 12 m4_ (any_of HT_.out s2_) ?_
 refine take_ (i := 4) (N := some 13) (v := ?_) (a' := ?_) m5_ rfl rfl (take_ofW HT_.out HW_.out s2_) (fun _ _ _ h => h) (Or.inl ⟨by rfl, ?_⟩) hHeld ?_ ?_
 rotate_left
 {
 rintro w' ⟨s0, s1, s2, s3, s4, s5, s6, s7⟩
 go_simp
 with_reducible rfl}
 rotate_left
 · exact p1_
 refine one_ (i := 5) (N := some 14) m6_ rfl rfl (one_of HT_.out s2_) (by decide) (fun K hK => ?_)
 refine goes_ Try.func98 s2_ rfl #[.int .i64 ((rd_T63 l0 x6_1).f0)] (by rfl) rfl rfl s3_ ?_
 with_reducible refine (spec_l01Member.calls ((rd_T63 l0 x6_1).f0) true _ A6.out).mono ?_
 rintro e w' ⟨rfl, ⟨nd, rfl⟩⟩
 refine ⟨_, rfl, ?_⟩
 refine hK.out _ _ ⟨((HB.out.cell (World.block_lt_of_cell? w _ hw234_0)).trans hw234_0), ((HB.out.cell (World.block_lt_of_cell? w _ hw234_1)).trans hw234_1), ((HB.out.cell (World.block_lt_of_cell? w _ hw236_0)).trans hw236_0), ((HB.out.cell (World.block_lt_of_cell? w _ hw236_1)).trans hw236_1), ((HB.out.cell (World.block_lt_of_cell? w _ hw238_0)).trans hw238_0), ((HB.out.cell (World.block_lt_of_cell? w _ hw238_1)).trans hw238_1), ((HB.out.cell (World.block_lt_of_cell? w _ hw239_0)).trans hw239_0), ((HB.out.cell (World.block_lt_of_cell? w _ hw239_1)).trans hw239_1)⟩ (fun hHeld => ?_)
 clear hK K
 refine norm_ (a' := ?_) ?_ ?_
 rotate_left
 {
 show Act.put _ (some 14) _ = _
 simp only [Act.put, List.setIfInBounds_toArray, List.set_cons_zero, List.set_cons_succ, i64_w, i32_w]
 rfl}
 refine pu_ 6 15 m7_ (any_of HT_.out s2_) ?_
 refine pu_ 7 16 m8_ (any_of HT_.out s2_) ?_
 refine pu_ 8 17 m9_ (any_of HT_.out s2_) ?_
 refine pu_ 9 18 m10_ (any_of HT_.out s2_) ?_
 refine pu_ 10 19 m11_ (any_of HT_.out s2_) ?_
 refine pu_ 11 20 m12_ (any_of HT_.out s2_) ?_
 refine take_ (i := 12) (N := some 21) (v := ?_) (a' := ?_) m13_ rfl rfl (take_ofW HT_.out HW_.out s2_) (fun _ _ _ h => h) (Or.inl ⟨by rfl, ?_⟩) hHeld ?_ ?_
 rotate_left
 {
 rintro w' ⟨s0, s1, s2, s3, s4, s5, s6, s7⟩
 go_simp
 with_reducible rfl}
 rotate_left
 · exact p1_
 refine one_ (i := 13) (N := some 22) m14_ rfl rfl (one_of HT_.out s2_) (by decide) (fun K hK => ?_)
 refine goes_ Try.func58 s2_ rfl #[.int .i64 ((rd_T63 l0 x6_1).f1)] (by rfl) rfl rfl s3_ ?_
 with_reducible refine (spec_l01Tick.calls ((rd_T63 l0 x6_1).f1) true _ A8.out).mono ?_
 rintro e w' ⟨rfl, ⟨nd, rfl⟩⟩
 refine ⟨_, rfl, ?_⟩
 refine hK.out _ _ ⟨((HB.out.cell (World.block_lt_of_cell? w _ hw234_0)).trans hw234_0), ((HB.out.cell (World.block_lt_of_cell? w _ hw234_1)).trans hw234_1), ((HB.out.cell (World.block_lt_of_cell? w _ hw236_0)).trans hw236_0), ((HB.out.cell (World.block_lt_of_cell? w _ hw236_1)).trans hw236_1), ((HB.out.cell (World.block_lt_of_cell? w _ hw238_0)).trans hw238_0), ((HB.out.cell (World.block_lt_of_cell? w _ hw238_1)).trans hw238_1), ((HB.out.cell (World.block_lt_of_cell? w _ hw239_0)).trans hw239_0), ((HB.out.cell (World.block_lt_of_cell? w _ hw239_1)).trans hw239_1)⟩ (fun hHeld => ?_)
 clear hK K
 refine norm_ (a' := ?_) ?_ ?_
 rotate_left
 {
 show Act.put _ (some 22) _ = _
 simp only [Act.put, List.setIfInBounds_toArray, List.set_cons_zero, List.set_cons_succ, i64_w, i32_w]
 rfl}
 refine pu_ 14 23 m15_ (any_of HT_.out s2_) ?_
 refine pu_ 15 24 m16_ (any_of HT_.out s2_) ?_
 refine pu_ 16 25 m17_ (any_of HT_.out s2_) ?_
 refine pu_ 17 26 m18_ (any_of HT_.out s2_) ?_
 refine pu_ 18 27 m19_ (any_of HT_.out s2_) ?_
 refine pu_ 19 28 m20_ (any_of HT_.out s2_) ?_
 refine pu_ 20 29 m21_ (any_of HT_.out s2_) ?_
 refine pu_ 21 30 m22_ (any_of HT_.out s2_) ?_
 refine pu_ 22 31 m23_ (any_of HT_.out s2_) ?_
 refine pu_ 23 32 m24_ (any_of HT_.out s2_) ?_
 refine pu_ 24 33 m25_ (any_of HT_.out s2_) ?_
 refine pu_ 26 35 #[T,T,T,T,T,T,T,T,T,T,T,T,T,T,T,T,T,T,T,T,T,T,T,T,T,F,T,F,F,F,F,F,F,F] (any_of HT_.out s2_) ?_
 refine pu_ 27 36 #[T,T,T,T,T,T,T,T,T,T,T,T,T,T,T,T,T,T,T,T,T,T,T,T,T,F,T,T,F,F,F,F,F,F] (any_of HT_.out s2_) ?_
 refine pu_ 28 37 #[T,T,T,T,T,T,T,T,T,T,T,T,T,T,T,T,T,T,T,T,T,T,T,T,T,F,T,T,T,F,F,F,F,F] (any_of HT_.out s2_) ?_
 refine pu_ 29 38 #[T,T,T,T,T,T,T,T,T,T,T,T,T,T,T,T,T,T,T,T,T,T,T,T,T,F,T,T,T,T,F,F,F,F] (any_of HT_.out s2_) ?_
 refine take_ (i := 25) (N := some 34) (v := ?_) (a' := ?_) m26_ rfl rfl (take_ofW HT_.out HW_.out s2_) (fun _ _ _ h => h) (Or.inl ⟨by rfl, ?_⟩) hHeld ?_ ?_
 rotate_left
 {
 rintro w' ⟨s0, s1, s2, s3, s4, s5, s6, s7⟩
 go_simp
 with_reducible rfl}
 rotate_left
 · exact p1_
 refine take_ (i := 30) (N := some 39) (v := ?_) (a' := ?_) m27_ rfl rfl (take_ofW HT_.out HW_.out s2_) (fun _ _ _ h => h) (Or.inl ⟨by rfl, ?_⟩) hHeld ?_ ?_
 rotate_left
 {
 rintro w' ⟨s0, s1, s2, s3, s4, s5, s6, s7⟩
 go_simp
 with_reducible rfl}
 rotate_left
 · exact p1_
 refine pu_ 31 40 m28_ (any_of HT_.out s2_) ?_
 refine pu_ 32 41 m29_ (any_of HT_.out s2_) ?_
 refine pu_ 33 42 m30_ (any_of HT_.out s2_) ?_
 refine done_ (done_of HT_.out s2_) ?_
 try go_wp2
 go_meet
 case rel => exact ⟨_, (decide (((rd_T63 l0 (ji11)).f0) ≥ ((rd_T63 l0 x6_1).f0))), (by first | rfl | (simp; done) | (simp only [← hji11] <;> (first | rfl | simp)) | (simp [*]; done)), H', ⟨by have := HK1.out; first | omega | exact Nat.le_refl _⟩, ⟨by repeat (first | (with_reducible first | exact HB.out | apply below_alloc | apply pw_below_drewN | apply below_drew1) | exact HB.out)⟩⟩}
 {
 rw [if_neg c13] at H
 exact absurd H (by simp)}}
 {
 rw [if_neg c12] at H
 exact absurd H (by simp)}}
 {
 rw [if_neg c10] at H
 have c10b0 : decide (0 < x6_1) = false := decide_eq_false c10
 clear c10
 have H' := Aside0.mk H
 clear H
 try go_wp2
 replace HB := Aside0.mk (below_drew1 HB.out)
 have p234 : 0 ≤ (x6_1 : Int) := of_decide_eq_true (by first | (with_reducible assumption) | assumption)
 have q234 : x6_1 < (l0.length : Int) := of_decide_eq_true (by first | (with_reducible assumption) | assumption)
 obtain ⟨ad234, e234, hx234_0, hx234_1⟩ := at_T63 HR0.out x6_1 p234 q234
 have hw234_1 := hx234_1
 have hw234_0 := hx234_0
 cases e234
 replace hx234_0 := (HB.out.cell (World.block_lt_of_cell? w _ hx234_0)).trans hx234_0
 replace hx234_1 := (HB.out.cell (World.block_lt_of_cell? w _ hx234_1)).trans hx234_1
 replace p234 := eq_true p234
 replace q234 := eq_true q234
 have p236 : 0 ≤ (x6_1 : Int) := of_decide_eq_true (by first | (with_reducible assumption) | assumption)
 have q236 : x6_1 < (l0.length : Int) := of_decide_eq_true (by first | (with_reducible assumption) | assumption)
 obtain ⟨ad236, e236, hx236_0, hx236_1⟩ := at_T63 HR0.out x6_1 p236 q236
 have hw236_1 := hx236_1
 have hw236_0 := hx236_0
 obtain rfl : ad234 = ad236 := (by injection e236)
 replace hx236_0 := (HB.out.cell (World.block_lt_of_cell? w _ hx236_0)).trans hx236_0
 replace hx236_1 := (HB.out.cell (World.block_lt_of_cell? w _ hx236_1)).trans hx236_1
 replace p236 := eq_true p236
 replace q236 := eq_true q236
 refine start_ (n := 34) (S := fun w' => w'.cell? (ad234.add ((x6_1).toNat * 2)) = some (.int .i64 ((rd_T63 l0 x6_1).f0)) ∧ w'.cell? ⟨(ad234.add ((x6_1).toNat * 2)).block, (ad234.add ((x6_1).toNat * 2)).off + 1, none⟩ = some (.int .i64 ((rd_T63 l0 x6_1).f1)) ∧ w'.cell? (ad234.add ((x6_1).toNat * 2)) = some (.int .i64 ((rd_T63 l0 x6_1).f0)) ∧ w'.cell? ⟨(ad234.add ((x6_1).toNat * 2)).block, (ad234.add ((x6_1).toNat * 2)).off + 1, none⟩ = some (.int .i64 ((rd_T63 l0 x6_1).f1))) (ds := []) m0_ s2_ rfl rfl ⟨((HB.out.cell (World.block_lt_of_cell? w _ hw234_0)).trans hw234_0), ((HB.out.cell (World.block_lt_of_cell? w _ hw234_1)).trans hw234_1), ((HB.out.cell (World.block_lt_of_cell? w _ hw236_0)).trans hw236_0), ((HB.out.cell (World.block_lt_of_cell? w _ hw236_1)).trans hw236_1)⟩ (fun hHeld => ?_); refine with_tabW spec_l05Leases.tab4 spec_l05Leases.bits4 (fun HT_ HW_ => ?_)
 generalize wr.drew = w15 at HB hx234_0 hx234_1 hx236_0 hx236_1 hHeld ⊢
 refine pu_ 0 9 m1_ (any_of HT_.out s2_) ?_
 refine pu_ 1 10 m2_ (any_of HT_.out s2_) ?_
 refine pu_ 2 11 m3_ (any_of HT_.out s2_) ?_
 refine pu_ 3 12 m4_ (any_of HT_.out s2_) ?_
 refine take_ (i := 4) (N := some 13) (v := ?_) (a' := ?_) m5_ rfl rfl (take_ofW HT_.out HW_.out s2_) (fun _ _ _ h => h) (Or.inl ⟨by rfl, ?_⟩) hHeld ?_ ?_
 rotate_left
 {
 rintro w' ⟨s0, s1, s2, s3⟩
 go_simp
 with_reducible rfl}
 rotate_left
 · exact p1_
 refine one_ (i := 5) (N := some 14) m6_ rfl rfl (one_of HT_.out s2_) (by decide) (fun K hK => ?_)
 refine goes_ Try.func98 s2_ rfl #[.int .i64 ((rd_T63 l0 x6_1).f0)] (by rfl) rfl rfl s3_ ?_
 with_reducible refine (spec_l01Member.calls ((rd_T63 l0 x6_1).f0) true _ A6.out).mono ?_
 rintro e w' ⟨rfl, ⟨nd, rfl⟩⟩
 refine ⟨_, rfl, ?_⟩
 refine hK.out _ _ ⟨((HB.out.cell (World.block_lt_of_cell? w _ hw234_0)).trans hw234_0), ((HB.out.cell (World.block_lt_of_cell? w _ hw234_1)).trans hw234_1), ((HB.out.cell (World.block_lt_of_cell? w _ hw236_0)).trans hw236_0), ((HB.out.cell (World.block_lt_of_cell? w _ hw236_1)).trans hw236_1)⟩ (fun hHeld => ?_)
 clear hK K
 refine norm_ (a' := ?_) ?_ ?_
 rotate_left
 {
 show Act.put _ (some 14) _ = _
 simp only [Act.put, List.setIfInBounds_toArray, List.set_cons_zero, List.set_cons_succ, i64_w, i32_w]
 rfl}
 refine pu_ 6 15 m7_ (any_of HT_.out s2_) ?_
 refine pu_ 7 16 m8_ (any_of HT_.out s2_) ?_
 refine pu_ 8 17 m9_ (any_of HT_.out s2_) ?_
 refine pu_ 9 18 m10_ (any_of HT_.out s2_) ?_
 refine pu_ 10 19 m11_ (any_of HT_.out s2_) ?_
 refine pu_ 11 20 m12_ (any_of HT_.out s2_) ?_
 refine take_ (i := 12) (N := some 21) (v := ?_) (a' := ?_) m13_ rfl rfl (take_ofW HT_.out HW_.out s2_) (fun _ _ _ h => h) (Or.inl ⟨by rfl, ?_⟩) hHeld ?_ ?_
 rotate_left
 {
 rintro w' ⟨s0, s1, s2, s3⟩
 go_simp
 with_reducible rfl}
 rotate_left
 · exact p1_
 refine one_ (i := 13) (N := some 22) m14_ rfl rfl (one_of HT_.out s2_) (by decide) (fun K hK => ?_)
 refine goes_ Try.func58 s2_ rfl #[.int .i64 ((rd_T63 l0 x6_1).f1)] (by rfl) rfl rfl s3_ ?_
 with_reducible refine (spec_l01Tick.calls ((rd_T63 l0 x6_1).f1) true _ A8.out).mono ?_
 rintro e w' ⟨rfl, ⟨nd, rfl⟩⟩
 refine ⟨_, rfl, ?_⟩
 refine hK.out _ _ ⟨((HB.out.cell (World.block_lt_of_cell? w _ hw234_0)).trans hw234_0), ((HB.out.cell (World.block_lt_of_cell? w _ hw234_1)).trans hw234_1), ((HB.out.cell (World.block_lt_of_cell? w _ hw236_0)).trans hw236_0), ((HB.out.cell (World.block_lt_of_cell? w _ hw236_1)).trans hw236_1)⟩ (fun hHeld => ?_)
 clear hK K
 refine norm_ (a' := ?_) ?_ ?_
 rotate_left
 {
 show Act.put _ (some 22) _ = _
 simp only [Act.put, List.setIfInBounds_toArray, List.set_cons_zero, List.set_cons_succ, i64_w, i32_w]
 rfl}
 refine pu_ 14 23 m15_ (any_of HT_.out s2_) ?_
 refine pu_ 15 24 m16_ (any_of HT_.out s2_) ?_
 refine pu_ 16 25 m17_ (any_of HT_.out s2_) ?_
 refine pu_ 17 26 m18_ (any_of HT_.out s2_) ?_
 refine pu_ 18 27 m19_ (any_of HT_.out s2_) ?_
 refine pu_ 19 28 m20_ (any_of HT_.out s2_) ?_
 refine pn_ 20 29 m21_ (any_of HT_.out s2_) ?_
 refine pn_ 21 30 m22_ (any_of HT_.out s2_) ?_
 refine pn_ 22 31 m23_ (any_of HT_.out s2_) ?_
 refine pn_ 23 32 m24_ (any_of HT_.out s2_) ?_
 refine pn_ 24 33 m25_ (any_of HT_.out s2_) ?_
 refine pn_ 25 34 m31_ (any_of HT_.out s2_) ?_
 refine pn_ 26 35 m32_ (any_of HT_.out s2_) ?_
 refine pn_ 27 36 m33_ (any_of HT_.out s2_) ?_
 refine pn_ 28 37 m34_ (any_of HT_.out s2_) ?_
 refine pn_ 29 38 m26_ (any_of HT_.out s2_) ?_
 refine pn_ 30 39 m27_ (any_of HT_.out s2_) ?_
 refine pn_ 31 40 m28_ (any_of HT_.out s2_) ?_
 refine pu_ 32 41 m29_ (any_of HT_.out s2_) ?_
 refine pu_ 33 42 m30_ (any_of HT_.out s2_) ?_
 refine done_ (done_of HT_.out s2_) ?_
 try go_wp2
 go_meet
 case rel => exact ⟨_, (false), s1_, H', ⟨by have := HK1.out; first | omega | exact Nat.le_refl _⟩, ⟨by repeat (first | (with_reducible first | exact HB.out | apply below_alloc | apply pw_below_drewN | apply below_drew1) | exact HB.out)⟩⟩}}
 {
 replace c9 := Bool.eq_false_iff.mpr c9
 subst c9
 have H1 : (spec_l05Leases.j1 k1 l0 (l0.length : Int) x6_1 true) = some r := by rw [if_neg (show ¬ (false = true) by decide)] at H; exact H
 clear H
 have H := H1
 clear H1
 have H' := Aside0.mk H
 clear H
 try go_wp2
 replace HB := Aside0.mk (below_drew1 HB.out)
 have p234 : 0 ≤ (x6_1 : Int) := of_decide_eq_true (by first | (with_reducible assumption) | assumption)
 have q234 : x6_1 < (l0.length : Int) := of_decide_eq_true (by first | (with_reducible assumption) | assumption)
 obtain ⟨ad234, e234, hx234_0, hx234_1⟩ := at_T63 HR0.out x6_1 p234 q234
 have hw234_1 := hx234_1
 have hw234_0 := hx234_0
 cases e234
 replace hx234_0 := (HB.out.cell (World.block_lt_of_cell? w _ hx234_0)).trans hx234_0
 replace hx234_1 := (HB.out.cell (World.block_lt_of_cell? w _ hx234_1)).trans hx234_1
 replace p234 := eq_true p234
 replace q234 := eq_true q234
 have p236 : 0 ≤ (x6_1 : Int) := of_decide_eq_true (by first | (with_reducible assumption) | assumption)
 have q236 : x6_1 < (l0.length : Int) := of_decide_eq_true (by first | (with_reducible assumption) | assumption)
 obtain ⟨ad236, e236, hx236_0, hx236_1⟩ := at_T63 HR0.out x6_1 p236 q236
 have hw236_1 := hx236_1
 have hw236_0 := hx236_0
 obtain rfl : ad234 = ad236 := (by injection e236)
 replace hx236_0 := (HB.out.cell (World.block_lt_of_cell? w _ hx236_0)).trans hx236_0
 replace hx236_1 := (HB.out.cell (World.block_lt_of_cell? w _ hx236_1)).trans hx236_1
 replace p236 := eq_true p236
 replace q236 := eq_true q236
 refine start_ (n := 34) (S := fun w' => w'.cell? (ad234.add ((x6_1).toNat * 2)) = some (.int .i64 ((rd_T63 l0 x6_1).f0)) ∧ w'.cell? ⟨(ad234.add ((x6_1).toNat * 2)).block, (ad234.add ((x6_1).toNat * 2)).off + 1, none⟩ = some (.int .i64 ((rd_T63 l0 x6_1).f1)) ∧ w'.cell? (ad234.add ((x6_1).toNat * 2)) = some (.int .i64 ((rd_T63 l0 x6_1).f0)) ∧ w'.cell? ⟨(ad234.add ((x6_1).toNat * 2)).block, (ad234.add ((x6_1).toNat * 2)).off + 1, none⟩ = some (.int .i64 ((rd_T63 l0 x6_1).f1))) (ds := []) m0_ s2_ rfl rfl ⟨((HB.out.cell (World.block_lt_of_cell? w _ hw234_0)).trans hw234_0), ((HB.out.cell (World.block_lt_of_cell? w _ hw234_1)).trans hw234_1), ((HB.out.cell (World.block_lt_of_cell? w _ hw236_0)).trans hw236_0), ((HB.out.cell (World.block_lt_of_cell? w _ hw236_1)).trans hw236_1)⟩ (fun hHeld => ?_); refine with_tabW spec_l05Leases.tab4 spec_l05Leases.bits4 (fun HT_ HW_ => ?_)
 generalize wr.drew = w16 at HB hx234_0 hx234_1 hx236_0 hx236_1 hHeld ⊢
 refine pu_ 0 9 m1_ (any_of HT_.out s2_) ?_
 refine pu_ 1 10 m2_ (any_of HT_.out s2_) ?_
 refine pu_ 2 11 m3_ (any_of HT_.out s2_) ?_
 refine pu_ 3 12 m4_ (any_of HT_.out s2_) ?_
 refine take_ (i := 4) (N := some 13) (v := ?_) (a' := ?_) m5_ rfl rfl (take_ofW HT_.out HW_.out s2_) (fun _ _ _ h => h) (Or.inl ⟨by rfl, ?_⟩) hHeld ?_ ?_
 rotate_left
 {
 rintro w' ⟨s0, s1, s2, s3⟩
 go_simp
 with_reducible rfl}
 rotate_left
 · exact p1_
 refine one_ (i := 5) (N := some 14) m6_ rfl rfl (one_of HT_.out s2_) (by decide) (fun K hK => ?_)
 refine goes_ Try.func98 s2_ rfl #[.int .i64 ((rd_T63 l0 x6_1).f0)] (by rfl) rfl rfl s3_ ?_
 with_reducible refine (spec_l01Member.calls ((rd_T63 l0 x6_1).f0) true _ A6.out).mono ?_
 rintro e w' ⟨rfl, ⟨nd, rfl⟩⟩
 refine ⟨_, rfl, ?_⟩
 refine hK.out _ _ ⟨((HB.out.cell (World.block_lt_of_cell? w _ hw234_0)).trans hw234_0), ((HB.out.cell (World.block_lt_of_cell? w _ hw234_1)).trans hw234_1), ((HB.out.cell (World.block_lt_of_cell? w _ hw236_0)).trans hw236_0), ((HB.out.cell (World.block_lt_of_cell? w _ hw236_1)).trans hw236_1)⟩ (fun hHeld => ?_)
 clear hK K
 refine norm_ (a' := ?_) ?_ ?_
 rotate_left
 {
 show Act.put _ (some 14) _ = _
 simp only [Act.put, List.setIfInBounds_toArray, List.set_cons_zero, List.set_cons_succ, i64_w, i32_w]
 rfl}
 refine pu_ 6 15 m7_ (any_of HT_.out s2_) ?_
 refine pu_ 7 16 m8_ (any_of HT_.out s2_) ?_
 refine pu_ 8 17 m9_ (any_of HT_.out s2_) ?_
 refine pu_ 9 18 m10_ (any_of HT_.out s2_) ?_
 refine pu_ 10 19 m11_ (any_of HT_.out s2_) ?_
 refine pu_ 11 20 m12_ (any_of HT_.out s2_) ?_
 refine take_ (i := 12) (N := some 21) (v := ?_) (a' := ?_) m13_ rfl rfl (take_ofW HT_.out HW_.out s2_) (fun _ _ _ h => h) (Or.inl ⟨by rfl, ?_⟩) hHeld ?_ ?_
 rotate_left
 {
 rintro w' ⟨s0, s1, s2, s3⟩
 go_simp
 with_reducible rfl}
 rotate_left
 · exact p1_
 refine one_ (i := 13) (N := some 22) m14_ rfl rfl (one_of HT_.out s2_) (by decide) (fun K hK => ?_)
 refine goes_ Try.func58 s2_ rfl #[.int .i64 ((rd_T63 l0 x6_1).f1)] (by rfl) rfl rfl s3_ ?_
 with_reducible refine (spec_l01Tick.calls ((rd_T63 l0 x6_1).f1) false _ A8.out).mono ?_
 rintro e w' ⟨rfl, ⟨nd, rfl⟩⟩
 refine ⟨_, rfl, ?_⟩
 refine hK.out _ _ ⟨((HB.out.cell (World.block_lt_of_cell? w _ hw234_0)).trans hw234_0), ((HB.out.cell (World.block_lt_of_cell? w _ hw234_1)).trans hw234_1), ((HB.out.cell (World.block_lt_of_cell? w _ hw236_0)).trans hw236_0), ((HB.out.cell (World.block_lt_of_cell? w _ hw236_1)).trans hw236_1)⟩ (fun hHeld => ?_)
 clear hK K
 refine norm_ (a' := ?_) ?_ ?_
 rotate_left
 {
 show Act.put _ (some 22) _ = _
 simp only [Act.put, List.setIfInBounds_toArray, List.set_cons_zero, List.set_cons_succ, i64_w, i32_w]
 rfl}
 refine pu_ 14 23 m15_ (any_of HT_.out s2_) ?_
 refine pu_ 15 24 m16_ (any_of HT_.out s2_) ?_
 refine pu_ 16 25 m17_ (any_of HT_.out s2_) ?_
 refine pn_ 17 26 m18_ (any_of HT_.out s2_) ?_
 refine pn_ 18 27 m19_ (any_of HT_.out s2_) ?_
 refine pn_ 19 28 m20_ (any_of HT_.out s2_) ?_
 refine pn_ 20 29 m21_ (any_of HT_.out s2_) ?_
 refine pn_ 21 30 m22_ (any_of HT_.out s2_) ?_
 refine pn_ 22 31 m23_ (any_of HT_.out s2_) ?_
 refine pn_ 23 32 m24_ (any_of HT_.out s2_) ?_
 refine pn_ 24 33 m25_ (any_of HT_.out s2_) ?_
 refine pn_ 25 34 m31_ (any_of HT_.out s2_) ?_
 refine pn_ 26 35 m32_ (any_of HT_.out s2_) ?_
 refine pn_ 27 36 m33_ (any_of HT_.out s2_) ?_
 refine pn_ 28 37 m34_ (any_of HT_.out s2_) ?_
 refine pn_ 29 38 m26_ (any_of HT_.out s2_) ?_
 refine pn_ 30 39 m27_ (any_of HT_.out s2_) ?_
 refine pn_ 31 40 m28_ (any_of HT_.out s2_) ?_
 refine pn_ 32 41 m29_ (any_of HT_.out s2_) ?_
 refine pu_ 33 42 m30_ (any_of HT_.out s2_) ?_
 refine done_ (done_of HT_.out s2_) ?_
 try go_wp2
 go_meet
 case rel => exact ⟨_, (true), s1_, H', ⟨by have := HK1.out; first | omega | exact Nat.le_refl _⟩, ⟨by repeat (first | (with_reducible first | exact HB.out | apply below_alloc | apply pw_below_drewN | apply below_drew1) | exact HB.out)⟩⟩}}
 {
 replace c7 := Bool.eq_false_iff.mpr c7
 subst c7
 have H1 : (spec_l05Leases.j1 k1 l0 (l0.length : Int) x6_1 true) = some r := by rw [if_neg (show ¬ (false = true) by decide)] at H; exact H
 clear H
 have H := H1
 clear H1
 have H' := Aside0.mk H
 clear H
 try go_wp2
 replace HB := Aside0.mk (below_drew1 HB.out)
 have p234 : 0 ≤ (x6_1 : Int) := of_decide_eq_true (by first | (with_reducible assumption) | assumption)
 have q234 : x6_1 < (l0.length : Int) := of_decide_eq_true (by first | (with_reducible assumption) | assumption)
 obtain ⟨ad234, e234, hx234_0, hx234_1⟩ := at_T63 HR0.out x6_1 p234 q234
 have hw234_1 := hx234_1
 have hw234_0 := hx234_0
 cases e234
 replace hx234_0 := (HB.out.cell (World.block_lt_of_cell? w _ hx234_0)).trans hx234_0
 replace hx234_1 := (HB.out.cell (World.block_lt_of_cell? w _ hx234_1)).trans hx234_1
 replace p234 := eq_true p234
 replace q234 := eq_true q234
 refine start_ (n := 34) (S := fun w' => w'.cell? (ad234.add ((x6_1).toNat * 2)) = some (.int .i64 ((rd_T63 l0 x6_1).f0)) ∧ w'.cell? ⟨(ad234.add ((x6_1).toNat * 2)).block, (ad234.add ((x6_1).toNat * 2)).off + 1, none⟩ = some (.int .i64 ((rd_T63 l0 x6_1).f1))) (ds := []) m0_ s2_ rfl rfl ⟨((HB.out.cell (World.block_lt_of_cell? w _ hw234_0)).trans hw234_0), ((HB.out.cell (World.block_lt_of_cell? w _ hw234_1)).trans hw234_1)⟩ (fun hHeld => ?_); refine with_tabW spec_l05Leases.tab4 spec_l05Leases.bits4 (fun HT_ HW_ => ?_)
 generalize wr.drew = w17 at HB hx234_0 hx234_1 hHeld ⊢
 refine pu_ 0 9 m1_ (any_of HT_.out s2_) ?_
 refine pu_ 1 10 m2_ (any_of HT_.out s2_) ?_
 refine pu_ 2 11 m3_ (any_of HT_.out s2_) ?_
 refine pu_ 3 12 m4_ (any_of HT_.out s2_) ?_
 refine take_ (i := 4) (N := some 13) (v := ?_) (a' := ?_) m5_ rfl rfl (take_ofW HT_.out HW_.out s2_) (fun _ _ _ h => h) (Or.inl ⟨by rfl, ?_⟩) hHeld ?_ ?_
 rotate_left
 {
 rintro w' ⟨s0, s1⟩
 go_simp
 with_reducible rfl}
 rotate_left
 · exact p1_
 refine one_ (i := 5) (N := some 14) m6_ rfl rfl (one_of HT_.out s2_) (by decide) (fun K hK => ?_)
 refine goes_ Try.func98 s2_ rfl #[.int .i64 ((rd_T63 l0 x6_1).f0)] (by rfl) rfl rfl s3_ ?_
 with_reducible refine (spec_l01Member.calls ((rd_T63 l0 x6_1).f0) false _ A6.out).mono ?_
 rintro e w' ⟨rfl, ⟨nd, rfl⟩⟩
 refine ⟨_, rfl, ?_⟩
 refine hK.out _ _ ⟨((HB.out.cell (World.block_lt_of_cell? w _ hw234_0)).trans hw234_0), ((HB.out.cell (World.block_lt_of_cell? w _ hw234_1)).trans hw234_1)⟩ (fun hHeld => ?_)
 clear hK K
 refine norm_ (a' := ?_) ?_ ?_
 rotate_left
 {
 show Act.put _ (some 14) _ = _
 simp only [Act.put, List.setIfInBounds_toArray, List.set_cons_zero, List.set_cons_succ, i64_w, i32_w]
 rfl}
 refine pu_ 6 15 m7_ (any_of HT_.out s2_) ?_
 refine pu_ 7 16 m8_ (any_of HT_.out s2_) ?_
 refine pn_ 8 17 m9_ (any_of HT_.out s2_) ?_
 refine pn_ 9 18 m10_ (any_of HT_.out s2_) ?_
 refine pn_ 10 19 m11_ (any_of HT_.out s2_) ?_
 refine pn_ 11 20 m12_ (any_of HT_.out s2_) ?_
 refine pn_ 12 21 m13_ (any_of HT_.out s2_) ?_
 refine pn_ 13 22 m14_ (any_of HT_.out s2_) ?_
 refine pn_ 14 23 m15_ (any_of HT_.out s2_) ?_
 refine pu_ 15 24 m16_ (any_of HT_.out s2_) ?_
 refine pu_ 16 25 m17_ (any_of HT_.out s2_) ?_
 refine pn_ 17 26 m18_ (any_of HT_.out s2_) ?_
 refine pn_ 18 27 m19_ (any_of HT_.out s2_) ?_
 refine pn_ 19 28 m20_ (any_of HT_.out s2_) ?_
 refine pn_ 20 29 m21_ (any_of HT_.out s2_) ?_
 refine pn_ 21 30 m22_ (any_of HT_.out s2_) ?_
 refine pn_ 22 31 m23_ (any_of HT_.out s2_) ?_
 refine pn_ 23 32 m24_ (any_of HT_.out s2_) ?_
 refine pn_ 24 33 m25_ (any_of HT_.out s2_) ?_
 refine pn_ 25 34 m31_ (any_of HT_.out s2_) ?_
 refine pn_ 26 35 m32_ (any_of HT_.out s2_) ?_
 refine pn_ 27 36 m33_ (any_of HT_.out s2_) ?_
 refine pn_ 28 37 m34_ (any_of HT_.out s2_) ?_
 refine pn_ 29 38 m26_ (any_of HT_.out s2_) ?_
 refine pn_ 30 39 m27_ (any_of HT_.out s2_) ?_
 refine pn_ 31 40 m28_ (any_of HT_.out s2_) ?_
 refine pn_ 32 41 m29_ (any_of HT_.out s2_) ?_
 refine pu_ 33 42 m30_ (any_of HT_.out s2_) ?_
 refine done_ (done_of HT_.out s2_) ?_
 try go_wp2
 go_meet
 case rel => exact ⟨_, (true), s1_, H', ⟨by have := HK1.out; first | omega | exact Nat.le_refl _⟩, ⟨by repeat (first | (with_reducible first | exact HB.out | apply below_alloc | apply pw_below_drewN | apply below_drew1) | exact HB.out)⟩⟩}}
 {
 rw [if_neg c5] at H
 exact absurd H (by simp)}}
 {
 rw [if_neg c4] at H
 exact absurd H (by simp)}}
 case rest =>
  skip
  {
 clear HC3
 try clear p2
 try clear q2
 try clear hx2
 try clear c4
 try clear c5
 try clear c7
 try clear c9
 try clear hx234_0
 try clear hx234_1
 try clear hx236_0
 try clear hx236_1
 try clear p234
 try clear p236
 try clear q234
 try clear q236
 obtain ⟨kq, x42_2, rfl, HA, HJ2, HB⟩ := hcut
 cases kq with
 | zero => exact absurd HA.out (by simp [spec_l05Leases.j1])
 | succ kj2 =>
  skip
  {
 have H := HA.out
 clear HA
 simp only [spec_l05Leases.j1] at H
 by_cases c18 : x42_2 = true
 {
 subst c18
 have H1 : (some false) = some r := by rw [if_pos rfl] at H; exact H
 clear H
 have H := H1
 clear H1
 obtain rfl := Option.some.inj H
 go_wp2
 go_ret
 exact ⟨by first | rfl | (simp [errW_none, errW_some] <;> rfl) | (simp [*, errW_none, errW_some] <;> rfl), by repeat (first | (with_reducible first | exact HB.out | apply below_alloc | apply pw_below_drewN | apply below_drew1) | exact HB.out)⟩}
 {
 replace c18 := Bool.eq_false_iff.mpr c18
 subst c18
 have H1 : (spec_l05Leases.l0 kj2 l0 (l0.length : Int) (wrap64 (x6_1 + 1))) = some r := by rw [if_neg (show ¬ (false = true) by decide)] at H; exact H
 clear H
 have H := H1
 clear H1
 have H' := Aside0.mk H
 clear H
 go_wp2
 go_roundg kj2
 case measure => have := HK1.out; have := HJ2.out; omega
 case rel => exact ⟨(wrap64 (x6_1 + 1)), s1_, H', ⟨by have := HK1.out; have := HJ2.out; omega⟩, ⟨by repeat (first | (with_reducible first | exact HB.out | apply below_alloc | apply pw_below_drewN | apply below_drew1) | exact HB.out)⟩⟩}}}}
 {
 rw [if_neg c2] at H
 have c2b0 : decide (x6_1 < (l0.length : Int)) = false := decide_eq_false c2
 clear c2
 obtain rfl := Option.some.inj H
 go_wp2
 go_ret
 exact ⟨by first | rfl | (simp [errW_none, errW_some] <;> rfl) | (simp [*, errW_none, errW_some] <;> rfl), by repeat (first | (with_reducible first | exact HB.out | apply below_alloc | apply pw_below_drewN | apply below_drew1) | exact HB.out)⟩}}}

end Go.Proofs.Ytgfilednbllkmaa.QFnExactStartTyping
