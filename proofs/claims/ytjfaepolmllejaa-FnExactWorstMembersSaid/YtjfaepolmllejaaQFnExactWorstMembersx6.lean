-- written by a program of this session, on the lines of the kit's print
import Derived.Test.YtjfaepolmllejaaQFnExactWorstMembersx0
import Derived.Test.YtjfaepolmllejaaQFnExactWorstMembersx5
namespace Go.Proofs.Ytjfaepolmllejaa.QFnExactWorstMembers
open Go.RowKit Go.Proofs.YtjfaepolmllejaaW.PrintWords Go.Proofs.YtjfaepolmllejaaW.PrintLast Go.Proofs.YtjfaepolmllejaaW.PrintMore
attribute [local go_sem] max2_int min2_int max_two min_two max_three min_three max_four min_four   -- for this text's walks alone
set_option linter.unusedVariables false
set_option linter.unusedSimpArgs false

/-! ### spec_l06Strikes: function 63 -/
abbrev spec_l06Strikes.T : Bool := true
abbrev spec_l06Strikes.F : Bool := false
theorem spec_l06Strikes.s1_ {P : Prop} (h : P := by first | rfl | (simp; done) | (simp [*]; done)) : P := h
theorem spec_l06Strikes.s2_ {P : Prop} (h : P := by kernel_rfl) : P := h
theorem spec_l06Strikes.s3_ {P : Prop} (h : P := by (try simp only [List.map_toArray, List.map_cons, List.map_nil]); first | done | rfl | (simp only [List.length_drop, List.length_take]; rfl)) : P := h
abbrev spec_l06Strikes.m0_ : Array Bool := #[F,F,F,F,F,F,F,F,F,F,F,F,F,F,F,F,F,F,F,F,F,F,F,F]
abbrev spec_l06Strikes.m1_ : Array Bool := #[T,F,F,F,F,F,F,F,F,F,F,F,F,F,F,F,F,F,F,F,F,F,F,F]
abbrev spec_l06Strikes.m2_ : Array Bool := #[T,T,F,F,F,F,F,F,F,F,F,F,F,F,F,F,F,F,F,F,F,F,F,F]
abbrev spec_l06Strikes.m3_ : Array Bool := #[T,T,T,F,F,F,F,F,F,F,F,F,F,F,F,F,F,F,F,F,F,F,F,F]
abbrev spec_l06Strikes.m4_ : Array Bool := #[T,T,T,T,F,F,F,F,F,F,F,F,F,F,F,F,F,F,F,F,F,F,F,F]
abbrev spec_l06Strikes.m5_ : Array Bool := #[T,T,T,T,T,F,F,F,F,F,F,F,F,F,F,F,F,F,F,F,F,F,F,F]
abbrev spec_l06Strikes.m6_ : Array Bool := #[T,T,T,T,T,T,F,F,F,F,F,F,F,F,F,F,F,F,F,F,F,F,F,F]
abbrev spec_l06Strikes.m7_ : Array Bool := #[T,T,T,T,T,T,T,F,F,F,F,F,F,F,F,F,F,F,F,F,F,F,F,F]
abbrev spec_l06Strikes.m8_ : Array Bool := #[T,T,T,T,T,T,T,T,F,F,F,F,F,F,F,F,F,F,F,F,F,F,F,F]
abbrev spec_l06Strikes.m9_ : Array Bool := #[T,T,T,T,T,T,T,T,T,F,F,F,F,F,F,F,F,F,F,F,F,F,F,F]
abbrev spec_l06Strikes.m10_ : Array Bool := #[T,T,T,T,T,T,T,T,T,T,F,F,F,F,F,F,F,F,F,F,F,F,F,F]
abbrev spec_l06Strikes.m11_ : Array Bool := #[T,T,T,T,T,T,T,T,T,T,T,F,F,F,F,F,F,F,F,F,F,F,F,F]
abbrev spec_l06Strikes.m12_ : Array Bool := #[T,T,T,T,T,T,T,T,T,T,T,T,F,F,F,F,F,F,F,F,F,F,F,F]
abbrev spec_l06Strikes.m13_ : Array Bool := #[T,T,T,T,T,T,T,T,T,T,T,T,T,F,F,F,F,F,F,F,F,F,F,F]
abbrev spec_l06Strikes.m14_ : Array Bool := #[T,T,T,T,T,T,T,T,T,T,T,T,T,T,F,F,F,F,F,F,F,F,F,F]
abbrev spec_l06Strikes.m15_ : Array Bool := #[T,T,T,T,T,T,T,T,T,T,T,T,T,T,F,T,F,F,F,F,F,F,F,F]
abbrev spec_l06Strikes.m16_ : Array Bool := #[T,T,T,T,T,T,T,T,T,T,T,T,T,T,F,T,T,F,F,F,F,F,F,F]
abbrev spec_l06Strikes.m17_ : Array Bool := #[T,T,T,T,T,T,T,T,T,T,T,T,T,T,F,T,T,T,F,F,F,F,F,F]
abbrev spec_l06Strikes.m18_ : Array Bool := #[T,T,T,T,T,T,T,T,T,T,T,T,T,T,F,T,T,T,T,F,F,F,F,F]
abbrev spec_l06Strikes.m19_ : Array Bool := #[T,T,T,T,T,T,T,T,T,T,T,T,T,T,F,T,T,T,T,T,F,F,F,F]
abbrev spec_l06Strikes.m20_ : Array Bool := #[T,T,T,T,T,T,T,T,T,T,T,T,T,T,T,T,T,T,T,T,F,F,F,F]
abbrev spec_l06Strikes.m21_ : Array Bool := #[T,T,T,T,T,T,T,T,T,T,T,T,T,T,T,T,T,T,T,T,T,F,F,F]
abbrev spec_l06Strikes.m22_ : Array Bool := #[T,T,T,T,T,T,T,T,T,T,T,T,T,T,T,T,T,T,T,T,T,T,F,F]
abbrev spec_l06Strikes.m23_ : Array Bool := #[T,T,T,T,T,T,T,T,T,T,T,T,T,T,T,T,T,T,T,T,T,T,T,F]
abbrev spec_l06Strikes.m24_ : Array Bool := #[T,T,T,T,T,T,T,T,T,T,T,T,T,T,T,T,T,T,T,T,T,T,T,T]
abbrev spec_l06Strikes.m25_ : Array Bool := #[T,T,T,T,T,T,T,T,T,T,T,T,T,T,T,F,F,F,F,F,F,F,F,F]
abbrev spec_l06Strikes.m26_ : Array Bool := #[T,T,T,T,T,T,T,T,T,T,T,T,T,T,T,T,F,F,F,F,F,F,F,F]
abbrev spec_l06Strikes.m27_ : Array Bool := #[T,T,T,T,T,T,T,T,T,T,T,T,T,T,T,T,T,F,F,F,F,F,F,F]
abbrev spec_l06Strikes.m28_ : Array Bool := #[T,T,T,T,T,T,T,T,T,T,T,T,T,T,T,T,T,T,F,F,F,F,F,F]
abbrev spec_l06Strikes.m29_ : Array Bool := #[T,T,T,T,T,T,T,T,T,T,T,T,T,T,T,T,T,T,T,F,F,F,F,F]
theorem spec_l06Strikes.p1_ {P : Prop} (h : P := by simp only [Act.put, List.setIfInBounds_toArray, List.set_cons_zero, List.set_cons_succ, i64_w, i32_w]; rfl) : P := h
theorem spec_l06Strikes.y1_ {P Q : Prop} (q : Q) (h : Q → P := by intro q_; repeat (first | (with_reducible first | exact q_ | apply below_alloc | apply pw_below_drewN | apply below_drew1) | exact q_)) : P := h q
theorem spec_l06Strikes.pu_ {P : Program} {md : Region.Mode} {ops : Array Oper} {Q : Exit → Act → World → Prop} {S : World → Prop} {ds : List Nat} {fuel : Nat} {l : Array Bool} {a : Act} {w : World} {oi : Oper} {a' : Act} {v : Value} (i N : Nat) (l' : Array Bool) (hc : anyB md ops l l' i = true) (h : wpAnyLast P md ops Q S ds fuel l' a' w) (hi : ops[i]? = some oi := by rfl) (hN : oi.dst = some N := by rfl) (hQ : ∀ c a w, Q (.panic c) (a.put oi.dst v) w → Q (.panic c) a w := by exact fun _ _ _ h => h) (hy : Yields P ops oi v a := by exact Or.inl ⟨by rfl, by intro w'; go_simp; with_reducible rfl⟩) (ha : a.put (some N) v = a' := by simp only [Act.put, List.setIfInBounds_toArray, List.set_cons_zero, List.set_cons_succ, i64_w, i32_w]; rfl) : wpAnyLast P md ops Q S ds (fuel + 1) l a w := pure_ l' hi hN hc hQ hy ha h
theorem spec_l06Strikes.pn_ {P : Program} {md : Region.Mode} {ops : Array Oper} {Q : Exit → Act → World → Prop} {S : World → Prop} {ds : List Nat} {fuel : Nat} {l : Array Bool} {a : Act} {w : World} {oi : Oper} {a' : Act} (i N : Nat) (l' : Array Bool) (hc : anyB md ops l l' i = true) (h : wpAnyLast P md ops Q S ds fuel l' a' w) (hi : ops[i]? = some oi := by rfl) (hN : oi.dst = some N := by rfl) (hQ : ∀ c a w, Q (.panic c) (a.put oi.dst undef) w → Q (.panic c) a w := by exact fun _ _ _ h => h) (hy : Yields P ops oi undef a := by exact Or.inr ⟨by rfl, rfl⟩) (ha : a.put (some N) undef = a' := by simp only [Act.put, List.setIfInBounds_toArray, List.set_cons_zero, List.set_cons_succ, i64_w, i32_w]; rfl) : wpAnyLast P md ops Q S ds (fuel + 1) l a w := pure_ l' hi hN hc hQ hy ha h
def spec_l06Strikes.l0 : Nat → List (S45) → Int → Option (Bool)
  | 0, _, _ => none
  | k + 1, x0, x3 => if x3 < (x0.length : Int) then (if 0 ≤ x3 then ((spec_l06Strike.f ((rd_T45 x0 x3).f0) ((rd_T45 x0 x3).f1) ((rd_T45 x0 x3).f2)).bind fun t145 => (if t145 = true then (if x3 > 0 then (if 0 ≤ (wrap64 (x3 - 1)) then (if (wrap64 (x3 - 1)) < (x0.length : Int) then (if ((rd_T45 x0 x3).f2) < ((rd_T45 x0 (wrap64 (x3 - 1))).f2) then (some false) else (spec_l06Strikes.l0 k x0 (wrap64 (x3 + 1)))) else (none)) else (none)) else (spec_l06Strikes.l0 k x0 (wrap64 (x3 + 1)))) else (some false))) else (none)) else (some true)
def spec_l06Strikes.f (k : Nat) (l0 : List (S45)) : Option (Bool) := if (l0.length : Int) > 64 then (some false) else (spec_l06Strikes.l0 k l0 0)
theorem spec_l06Strikes.mono_l : ∀ k, (∀ y0 y1, LeO (spec_l06Strikes.l0 k y0 y1) (spec_l06Strikes.l0 (k + 1) y0 y1))
  | 0 => fun _ _ r h => by simp [spec_l06Strikes.l0] at h
  | k + 1 => by
    have ih0 := spec_l06Strikes.mono_l k
    · intro y0 y1
      unfold spec_l06Strikes.l0
      repeat' first
      | (with_reducible exact ih0 _ _)
      | (with_reducible exact LeO.refl _)
      | (with_reducible exact LeO.none _)
      | (with_reducible refine LeO.ite ?_ ?_)
      | (with_reducible refine LeO.bind ?_ (fun _ => ?_))
      | exact ih0 _ _
      | exact LeO.none _
      | refine LeO.ite ?_ ?_
      | refine LeO.bind ?_ (fun _ => ?_)
theorem spec_l06Strikes.mono : ∀ a0 k, LeO (spec_l06Strikes.f k a0) (spec_l06Strikes.f (k + 1) a0) := by
  intro a0 k
  have ih0 := spec_l06Strikes.mono_l k
  unfold spec_l06Strikes.f
  repeat' first
      | (with_reducible exact ih0 _ _)
      | (with_reducible exact LeO.refl _)
      | (with_reducible exact LeO.none _)
      | (with_reducible refine LeO.ite ?_ ?_)
      | (with_reducible refine LeO.bind ?_ (fun _ => ?_))
      | exact ih0 _ _
      | exact LeO.none _
      | refine LeO.ite ?_ ?_
      | refine LeO.bind ?_ (fun _ => ?_)
def spec_l06Strikes.T6 : Bool × List (List Nat × List Nat) := (true, [([], []), ([], []), ([0, 1], [0, 1]), ([2], [2]), ([3], [3]), ([4], [4]), ([5, 4], [5]), ([6], [6]), ([7, 6], [6, 7]), ([8, 6, 6], [6, 8]), ([9], [9]), ([9], [9]), ([10, 11, 9], [9, 10, 11]), ([12, 9], [9, 12]), ([13, 9], [9, 13]), ([9], [9]), ([9], [9]), ([16, 9], [9, 16]), ([15, 17, 9], [9, 15, 17]), ([18, 9], [9, 18]), ([19, 9], [9, 19]), ([14, 20, 9], [9, 14, 20]), ([9, 21, 6], [6, 9, 21]), ([6, 22], [6, 22])])
def spec_l06Strikes.B6 : List Nat := [0, 0, 3, 7, 15, 31, 63, 127, 255, 511, 1023, 1023, 4095, 8191, 16383, 1023, 1023, 66559, 230399, 492543, 1016831, 2097151, 4194303, 8388607]
theorem spec_l06Strikes.tab6 : rtab .any (opsOf Try.f63 6) = spec_l06Strikes.T6 := by kernel_rfl
theorem spec_l06Strikes.bits6 : waitsOk spec_l06Strikes.T6.2 spec_l06Strikes.B6 = true := by kernel_rfl
set_option maxHeartbeats 8000000 in
set_option maxRecDepth 100000 in
theorem spec_l06Strikes.calls (k : Nat) (A0 : Option Addr) (c0 : Nat) (l0 : List (S45)) (r : Bool) (w : World) (hr0 : Kd.C k45 w A0 l0.length l0) (hc0 : l0.length ≤ c0) (h : spec_l06Strikes.f k l0 = some r) :
    Calls Try.prog 63 #[.slice A0 l0.length c0] w fun e w' => e = .returned (.bool r) ∧ Below w.heap.size w w' := by
 have hu45 := Try.underlying45
 have HR0 := Aside0.mk hr0
 have HC0 := Aside0.mk hc0
 clear hr0 hc0
 have HB := Aside0.mk (Below.refl w.heap.size w)
 have H : (if (l0.length : Int) > 64 then (some false) else (spec_l06Strikes.l0 k l0 0)) = some r := h
 clear h
 by_cases c2 : (l0.length : Int) > 64
 {
 rw [if_pos c2] at H
 have c2b0 : decide (64 < (l0.length : Int)) = true := decide_eq_true c2
 have c2b1 : decide (64 < l0.length) = true := decide_eq_true (by omega)
 clear c2
 obtain rfl := Option.some.inj H
 go_enter Try.func63, Try.ntmps63
 go_wp2
 go_ret
 exact ⟨by first | rfl | (simp [errW_none, errW_some] <;> rfl) | (simp [*, errW_none, errW_some] <;> rfl), by repeat (first | (with_reducible first | exact HB.out | apply below_alloc | apply pw_below_drewN | apply below_drew1) | exact HB.out)⟩}
 {
 rw [if_neg c2] at H
 have c2b0 : decide (64 < (l0.length : Int)) = false := decide_eq_false c2
 have c2b1 : decide (64 < l0.length) = false := decide_eq_false (by omega)
 clear c2
 have H' := Aside0.mk H
 clear H
 go_enter Try.func63, Try.ntmps63
 go_wp2
 go_loopg [3] k (fun kq v3 w' => ∃ (x3_1 : Int), v3 = .int .i64 x3_1 ∧ Aside0 (spec_l06Strikes.l0 kq l0 x3_1 = some r) ∧ Aside0 (kq ≤ k) ∧ Aside0 (Below w.heap.size w w'))
 case atStart => exact ⟨(0), s1_, H', ⟨Nat.le_refl _⟩, ⟨by repeat (first | (with_reducible first | exact HB.out | apply below_alloc | apply pw_below_drewN | apply below_drew1) | exact HB.out)⟩⟩
 case round =>
  skip
  {
 clear H'
 try clear c2
 try clear c2b0
 try clear c2b1
 try clear p2
 obtain ⟨x3_1, rfl, HA, HK1, HB⟩ := hrel
 cases gk with
 | zero => exact absurd HA.out (by simp [spec_l06Strikes.l0])
 | succ k1 =>
  skip
  {
 have H := HA.out
 clear HA
 simp only [spec_l06Strikes.l0] at H
 by_cases c3 : x3_1 < (l0.length : Int)
 {
 rw [if_pos c3] at H
 have c3b0 : decide (x3_1 < (l0.length : Int)) = true := decide_eq_true c3
 clear c3
 by_cases c4 : 0 ≤ x3_1
 {
 rw [if_pos c4] at H
 have c4b0 : decide (0 ≤ x3_1) = true := decide_eq_true c4
 clear c4
 replace H := Option.bind_eq_some_iff.mp H
 obtain ⟨t145, A50, H⟩ := H
 replace H : (if t145 = true then (if x3_1 > 0 then (if 0 ≤ (wrap64 (x3_1 - 1)) then (if (wrap64 (x3_1 - 1)) < (l0.length : Int) then (if ((rd_T45 l0 x3_1).f2) < ((rd_T45 l0 (wrap64 (x3_1 - 1))).f2) then (some false) else (spec_l06Strikes.l0 k1 l0 (wrap64 (x3_1 + 1)))) else (none)) else (none)) else (spec_l06Strikes.l0 k1 l0 (wrap64 (x3_1 + 1)))) else (some false)) = some r := H
 have A5 := Aside0.mk A50
 clear A50
 by_cases c6 : t145 = true
 {
 subst c6
 have H1 : (if x3_1 > 0 then (if 0 ≤ (wrap64 (x3_1 - 1)) then (if (wrap64 (x3_1 - 1)) < (l0.length : Int) then (if ((rd_T45 l0 x3_1).f2) < ((rd_T45 l0 (wrap64 (x3_1 - 1))).f2) then (some false) else (spec_l06Strikes.l0 k1 l0 (wrap64 (x3_1 + 1)))) else (none)) else (none)) else (spec_l06Strikes.l0 k1 l0 (wrap64 (x3_1 + 1)))) = some r := by rw [if_pos rfl] at H; exact H
 clear H
 have H := H1
 clear H1
 by_cases c7 : x3_1 > 0
 {
 rw [if_pos c7] at H
 have c7b0 : decide (0 < x3_1) = true := decide_eq_true c7
 clear c7
 obtain ⟨ji8, hji8⟩ : ∃ j_ : Int, (wrap64 (x3_1 - 1)) = j_ := ⟨_, rfl⟩
 replace H : (if 0 ≤ (ji8) then (if (ji8) < (l0.length : Int) then (if ((rd_T45 l0 x3_1).f2) < ((rd_T45 l0 (ji8)).f2) then (some false) else (spec_l06Strikes.l0 k1 l0 (wrap64 (x3_1 + 1)))) else (none)) else (none)) = some r := by first | (rw [hji8] at H; exact H) | (simp only [hji8] at H ⊢; exact H)
 (try rw [hji8] at A5)
 have hji8w : (IntKind.i64.wrap (x3_1 - 1)) = ji8 := (i64_w _).trans hji8
 by_cases c9 : 0 ≤ (ji8)
 {
 rw [if_pos c9] at H
 have c9b0 : decide (0 ≤ (ji8)) = true := decide_eq_true c9
 clear c9
 by_cases c10 : (ji8) < (l0.length : Int)
 {
 rw [if_pos c10] at H
 have c10b0 : decide ((ji8) < (l0.length : Int)) = true := decide_eq_true c10
 clear c10
 by_cases c11 : ((rd_T45 l0 x3_1).f2) < ((rd_T45 l0 (ji8)).f2)
 {
 rw [if_pos c11] at H
 have c11b0 : decide (((rd_T45 l0 x3_1).f2) < ((rd_T45 l0 (ji8)).f2)) = true := decide_eq_true c11
 clear c11
 obtain rfl := Option.some.inj H
 try go_wp2
 replace HB := Aside0.mk (below_drew1 HB.out)
 have p144 : 0 ≤ (x3_1 : Int) := of_decide_eq_true (by first | (with_reducible assumption) | assumption)
 have q144 : x3_1 < (l0.length : Int) := of_decide_eq_true (by first | (with_reducible assumption) | assumption)
 obtain ⟨ad144, e144, hx144_0, hx144_1, hx144_2⟩ := at_T45 HR0.out x3_1 p144 q144
 have hw144_2 := hx144_2
 have hw144_1 := hx144_1
 have hw144_0 := hx144_0
 cases e144
 replace hx144_0 := (HB.out.cell (World.block_lt_of_cell? w _ hx144_0)).trans hx144_0
 replace hx144_1 := (HB.out.cell (World.block_lt_of_cell? w _ hx144_1)).trans hx144_1
 replace hx144_2 := (HB.out.cell (World.block_lt_of_cell? w _ hx144_2)).trans hx144_2
 replace p144 := eq_true p144
 replace q144 := eq_true q144
 have p146 : 0 ≤ (x3_1 : Int) := of_decide_eq_true (by first | (with_reducible assumption) | assumption)
 have q146 : x3_1 < (l0.length : Int) := of_decide_eq_true (by first | (with_reducible assumption) | assumption)
 obtain ⟨ad146, e146, hx146_0, hx146_1, hx146_2⟩ := at_T45 HR0.out x3_1 p146 q146
 have hw146_2 := hx146_2
 have hw146_1 := hx146_1
 have hw146_0 := hx146_0
 obtain rfl : ad144 = ad146 := (by injection e146)
 replace hx146_0 := (HB.out.cell (World.block_lt_of_cell? w _ hx146_0)).trans hx146_0
 replace hx146_1 := (HB.out.cell (World.block_lt_of_cell? w _ hx146_1)).trans hx146_1
 replace hx146_2 := (HB.out.cell (World.block_lt_of_cell? w _ hx146_2)).trans hx146_2
 replace p146 := eq_true p146
 replace q146 := eq_true q146
 have p147 : 0 ≤ ((ji8) : Int) := of_decide_eq_true (by first | (with_reducible assumption) | assumption)
 have q147 : (ji8) < (l0.length : Int) := of_decide_eq_true (by first | (with_reducible assumption) | assumption)
 obtain ⟨ad147, e147, hx147_0, hx147_1, hx147_2⟩ := at_T45 HR0.out (ji8) p147 q147
 have hw147_2 := hx147_2
 have hw147_1 := hx147_1
 have hw147_0 := hx147_0
 obtain rfl : ad144 = ad147 := (by injection e147)
 replace hx147_0 := (HB.out.cell (World.block_lt_of_cell? w _ hx147_0)).trans hx147_0
 replace hx147_1 := (HB.out.cell (World.block_lt_of_cell? w _ hx147_1)).trans hx147_1
 replace hx147_2 := (HB.out.cell (World.block_lt_of_cell? w _ hx147_2)).trans hx147_2
 replace p147 := eq_true p147
 replace q147 := eq_true q147
 refine start_ (n := 24) (S := fun w' => w'.cell? (ad144.add ((x3_1).toNat * 3)) = some (.int .i64 ((rd_T45 l0 x3_1).f0)) ∧ w'.cell? ⟨(ad144.add ((x3_1).toNat * 3)).block, (ad144.add ((x3_1).toNat * 3)).off + 1, none⟩ = some (.int .i64 ((rd_T45 l0 x3_1).f1)) ∧ w'.cell? ⟨(ad144.add ((x3_1).toNat * 3)).block, (ad144.add ((x3_1).toNat * 3)).off + 2, none⟩ = some (.int .i64 ((rd_T45 l0 x3_1).f2)) ∧ w'.cell? (ad144.add ((x3_1).toNat * 3)) = some (.int .i64 ((rd_T45 l0 x3_1).f0)) ∧ w'.cell? ⟨(ad144.add ((x3_1).toNat * 3)).block, (ad144.add ((x3_1).toNat * 3)).off + 1, none⟩ = some (.int .i64 ((rd_T45 l0 x3_1).f1)) ∧ w'.cell? ⟨(ad144.add ((x3_1).toNat * 3)).block, (ad144.add ((x3_1).toNat * 3)).off + 2, none⟩ = some (.int .i64 ((rd_T45 l0 x3_1).f2)) ∧ w'.cell? (ad144.add (((ji8)).toNat * 3)) = some (.int .i64 ((rd_T45 l0 (ji8)).f0)) ∧ w'.cell? ⟨(ad144.add (((ji8)).toNat * 3)).block, (ad144.add (((ji8)).toNat * 3)).off + 1, none⟩ = some (.int .i64 ((rd_T45 l0 (ji8)).f1)) ∧ w'.cell? ⟨(ad144.add (((ji8)).toNat * 3)).block, (ad144.add (((ji8)).toNat * 3)).off + 2, none⟩ = some (.int .i64 ((rd_T45 l0 (ji8)).f2))) (ds := []) m0_ s2_ rfl rfl ⟨((HB.out.cell (World.block_lt_of_cell? w _ hw144_0)).trans hw144_0), ((HB.out.cell (World.block_lt_of_cell? w _ hw144_1)).trans hw144_1), ((HB.out.cell (World.block_lt_of_cell? w _ hw144_2)).trans hw144_2), ((HB.out.cell (World.block_lt_of_cell? w _ hw146_0)).trans hw146_0), ((HB.out.cell (World.block_lt_of_cell? w _ hw146_1)).trans hw146_1), ((HB.out.cell (World.block_lt_of_cell? w _ hw146_2)).trans hw146_2), ((HB.out.cell (World.block_lt_of_cell? w _ hw147_0)).trans hw147_0), ((HB.out.cell (World.block_lt_of_cell? w _ hw147_1)).trans hw147_1), ((HB.out.cell (World.block_lt_of_cell? w _ hw147_2)).trans hw147_2)⟩ (fun hHeld => ?_); refine with_tabW spec_l06Strikes.tab6 spec_l06Strikes.bits6 (fun HT_ HW_ => ?_)
 generalize wr.drew = w12 at HB hx144_0 hx144_1 hx144_2 hx146_0 hx146_1 hx146_2 hx147_0 hx147_1 hx147_2 hHeld ⊢
 refine pu_ 0 13 m1_ (any_of HT_.out s2_) ?_
 refine pu_ 1 14 m2_ (any_of HT_.out s2_) ?_
 refine pu_ 2 15 m3_ (any_of HT_.out s2_) ?_
 refine take_ (i := 3) (N := some 16) (v := ?_) (a' := ?_) m4_ rfl rfl (take_ofW HT_.out HW_.out s2_) (fun _ _ _ h => h) (Or.inl ⟨by rfl, ?_⟩) hHeld ?_ ?_
 rotate_left
 {
 rintro w' ⟨s0, s1, s2, s3, s4, s5, s6, s7, s8⟩
 go_simp
 with_reducible rfl}
 rotate_left
 · exact p1_
 refine one_ (i := 4) (N := some 17) m5_ rfl rfl (one_of HT_.out s2_) (by decide) (fun K hK => ?_)
 refine goes_ Try.func97 s2_ rfl #[.agg #[.int .i64 ((rd_T45 l0 x3_1).f0), .int .i64 ((rd_T45 l0 x3_1).f1), .int .i64 ((rd_T45 l0 x3_1).f2)]] (by rfl) rfl rfl s3_ ?_
 with_reducible refine (spec_l06Strike.calls ((rd_T45 l0 x3_1).f0) ((rd_T45 l0 x3_1).f1) ((rd_T45 l0 x3_1).f2) true _ A5.out).mono ?_
 rintro e w13 ⟨rfl, hb⟩
 refine ⟨_, rfl, ?_⟩
 replace HB := Aside0.mk (below_step (y1_ HB.out) hb)
 (try clear hb)
 (try clear hb2)
 (try clear hk)
 (try clear hi)
 refine hK.out _ _ ⟨((HB.out.cell (World.block_lt_of_cell? w _ hw144_0)).trans hw144_0), ((HB.out.cell (World.block_lt_of_cell? w _ hw144_1)).trans hw144_1), ((HB.out.cell (World.block_lt_of_cell? w _ hw144_2)).trans hw144_2), ((HB.out.cell (World.block_lt_of_cell? w _ hw146_0)).trans hw146_0), ((HB.out.cell (World.block_lt_of_cell? w _ hw146_1)).trans hw146_1), ((HB.out.cell (World.block_lt_of_cell? w _ hw146_2)).trans hw146_2), ((HB.out.cell (World.block_lt_of_cell? w _ hw147_0)).trans hw147_0), ((HB.out.cell (World.block_lt_of_cell? w _ hw147_1)).trans hw147_1), ((HB.out.cell (World.block_lt_of_cell? w _ hw147_2)).trans hw147_2)⟩ (fun hHeld => ?_)
 clear hK K
 refine norm_ (a' := ?_) ?_ ?_
 rotate_left
 {
 show Act.put _ (some 17) _ = _
 simp only [Act.put, List.setIfInBounds_toArray, List.set_cons_zero, List.set_cons_succ, i64_w, i32_w]
 rfl}
 refine pu_ 5 18 m6_ (any_of HT_.out s2_) ?_
 refine pu_ 6 19 m7_ (any_of HT_.out s2_) ?_
 refine pu_ 7 20 m8_ (any_of HT_.out s2_) ?_
 refine pu_ 8 21 m9_ (any_of HT_.out s2_) ?_
 refine pu_ 9 22 m10_ (any_of HT_.out s2_) ?_
 refine pu_ 10 23 m11_ (any_of HT_.out s2_) ?_
 refine pu_ 11 24 m12_ (any_of HT_.out s2_) ?_
 refine pu_ 12 25 m13_ (any_of HT_.out s2_) ?_
 refine pu_ 13 26 m14_ (any_of HT_.out s2_) ?_
 refine pu_ 15 28 m15_ (any_of HT_.out s2_) ?_
 refine pu_ 16 29 m16_ (any_of HT_.out s2_) ?_
 refine pu_ 17 30 m17_ (any_of HT_.out s2_) ?_
 refine pu_ 18 31 m18_ (any_of HT_.out s2_) ?_
 refine pu_ 19 32 m19_ (any_of HT_.out s2_) ?_
 refine take_ (i := 14) (N := some 27) (v := ?_) (a' := ?_) m20_ rfl rfl (take_ofW HT_.out HW_.out s2_) (fun _ _ _ h => h) (Or.inl ⟨by rfl, ?_⟩) hHeld ?_ ?_
 rotate_left
 {
 rintro w' ⟨s0, s1, s2, s3, s4, s5, s6, s7, s8⟩
 go_simp
 with_reducible rfl}
 rotate_left
 · exact p1_
 refine take_ (i := 20) (N := some 33) (v := ?_) (a' := ?_) m21_ rfl rfl (take_ofW HT_.out HW_.out s2_) (fun _ _ _ h => h) (Or.inl ⟨by rfl, ?_⟩) hHeld ?_ ?_
 rotate_left
 {
 rintro w' ⟨s0, s1, s2, s3, s4, s5, s6, s7, s8⟩
 go_simp
 with_reducible rfl}
 rotate_left
 · exact p1_
 refine pu_ 21 34 m22_ (any_of HT_.out s2_) ?_
 refine pu_ 22 35 m23_ (any_of HT_.out s2_) ?_
 refine pu_ 23 36 m24_ (any_of HT_.out s2_) ?_
 refine done_ (done_of HT_.out s2_) ?_
 try go_wp2
 go_ret
 exact ⟨by first | rfl | (simp [errW_none, errW_some] <;> rfl) | (simp only [← hji8]; first | rfl | (simp [errW_none, errW_some] <;> rfl)) | (simp [*, errW_none, errW_some] <;> rfl), by repeat (first | (with_reducible first | exact HB.out | apply below_alloc | apply pw_below_drewN | apply below_drew1) | exact HB.out)⟩}
 {
 rw [if_neg c11] at H
 have c11b0 : decide (((rd_T45 l0 x3_1).f2) < ((rd_T45 l0 (ji8)).f2)) = false := decide_eq_false c11
 clear c11
 have H' := Aside0.mk H
 clear H
 try go_wp2
 replace HB := Aside0.mk (below_drew1 HB.out)
 have p144 : 0 ≤ (x3_1 : Int) := of_decide_eq_true (by first | (with_reducible assumption) | assumption)
 have q144 : x3_1 < (l0.length : Int) := of_decide_eq_true (by first | (with_reducible assumption) | assumption)
 obtain ⟨ad144, e144, hx144_0, hx144_1, hx144_2⟩ := at_T45 HR0.out x3_1 p144 q144
 have hw144_2 := hx144_2
 have hw144_1 := hx144_1
 have hw144_0 := hx144_0
 cases e144
 replace hx144_0 := (HB.out.cell (World.block_lt_of_cell? w _ hx144_0)).trans hx144_0
 replace hx144_1 := (HB.out.cell (World.block_lt_of_cell? w _ hx144_1)).trans hx144_1
 replace hx144_2 := (HB.out.cell (World.block_lt_of_cell? w _ hx144_2)).trans hx144_2
 replace p144 := eq_true p144
 replace q144 := eq_true q144
 have p146 : 0 ≤ (x3_1 : Int) := of_decide_eq_true (by first | (with_reducible assumption) | assumption)
 have q146 : x3_1 < (l0.length : Int) := of_decide_eq_true (by first | (with_reducible assumption) | assumption)
 obtain ⟨ad146, e146, hx146_0, hx146_1, hx146_2⟩ := at_T45 HR0.out x3_1 p146 q146
 have hw146_2 := hx146_2
 have hw146_1 := hx146_1
 have hw146_0 := hx146_0
 obtain rfl : ad144 = ad146 := (by injection e146)
 replace hx146_0 := (HB.out.cell (World.block_lt_of_cell? w _ hx146_0)).trans hx146_0
 replace hx146_1 := (HB.out.cell (World.block_lt_of_cell? w _ hx146_1)).trans hx146_1
 replace hx146_2 := (HB.out.cell (World.block_lt_of_cell? w _ hx146_2)).trans hx146_2
 replace p146 := eq_true p146
 replace q146 := eq_true q146
 have p147 : 0 ≤ ((ji8) : Int) := of_decide_eq_true (by first | (with_reducible assumption) | assumption)
 have q147 : (ji8) < (l0.length : Int) := of_decide_eq_true (by first | (with_reducible assumption) | assumption)
 obtain ⟨ad147, e147, hx147_0, hx147_1, hx147_2⟩ := at_T45 HR0.out (ji8) p147 q147
 have hw147_2 := hx147_2
 have hw147_1 := hx147_1
 have hw147_0 := hx147_0
 obtain rfl : ad144 = ad147 := (by injection e147)
 replace hx147_0 := (HB.out.cell (World.block_lt_of_cell? w _ hx147_0)).trans hx147_0
 replace hx147_1 := (HB.out.cell (World.block_lt_of_cell? w _ hx147_1)).trans hx147_1
 replace hx147_2 := (HB.out.cell (World.block_lt_of_cell? w _ hx147_2)).trans hx147_2
 replace p147 := eq_true p147
 replace q147 := eq_true q147
 refine start_ (n := 24) (S := fun w' => w'.cell? (ad144.add ((x3_1).toNat * 3)) = some (.int .i64 ((rd_T45 l0 x3_1).f0)) ∧ w'.cell? ⟨(ad144.add ((x3_1).toNat * 3)).block, (ad144.add ((x3_1).toNat * 3)).off + 1, none⟩ = some (.int .i64 ((rd_T45 l0 x3_1).f1)) ∧ w'.cell? ⟨(ad144.add ((x3_1).toNat * 3)).block, (ad144.add ((x3_1).toNat * 3)).off + 2, none⟩ = some (.int .i64 ((rd_T45 l0 x3_1).f2)) ∧ w'.cell? (ad144.add ((x3_1).toNat * 3)) = some (.int .i64 ((rd_T45 l0 x3_1).f0)) ∧ w'.cell? ⟨(ad144.add ((x3_1).toNat * 3)).block, (ad144.add ((x3_1).toNat * 3)).off + 1, none⟩ = some (.int .i64 ((rd_T45 l0 x3_1).f1)) ∧ w'.cell? ⟨(ad144.add ((x3_1).toNat * 3)).block, (ad144.add ((x3_1).toNat * 3)).off + 2, none⟩ = some (.int .i64 ((rd_T45 l0 x3_1).f2)) ∧ w'.cell? (ad144.add (((ji8)).toNat * 3)) = some (.int .i64 ((rd_T45 l0 (ji8)).f0)) ∧ w'.cell? ⟨(ad144.add (((ji8)).toNat * 3)).block, (ad144.add (((ji8)).toNat * 3)).off + 1, none⟩ = some (.int .i64 ((rd_T45 l0 (ji8)).f1)) ∧ w'.cell? ⟨(ad144.add (((ji8)).toNat * 3)).block, (ad144.add (((ji8)).toNat * 3)).off + 2, none⟩ = some (.int .i64 ((rd_T45 l0 (ji8)).f2))) (ds := []) m0_ s2_ rfl rfl ⟨((HB.out.cell (World.block_lt_of_cell? w _ hw144_0)).trans hw144_0), ((HB.out.cell (World.block_lt_of_cell? w _ hw144_1)).trans hw144_1), ((HB.out.cell (World.block_lt_of_cell? w _ hw144_2)).trans hw144_2), ((HB.out.cell (World.block_lt_of_cell? w _ hw146_0)).trans hw146_0), ((HB.out.cell (World.block_lt_of_cell? w _ hw146_1)).trans hw146_1), ((HB.out.cell (World.block_lt_of_cell? w _ hw146_2)).trans hw146_2), ((HB.out.cell (World.block_lt_of_cell? w _ hw147_0)).trans hw147_0), ((HB.out.cell (World.block_lt_of_cell? w _ hw147_1)).trans hw147_1), ((HB.out.cell (World.block_lt_of_cell? w _ hw147_2)).trans hw147_2)⟩ (fun hHeld => ?_); refine with_tabW spec_l06Strikes.tab6 spec_l06Strikes.bits6 (fun HT_ HW_ => ?_)
 generalize wr.drew = w14 at HB hx144_0 hx144_1 hx144_2 hx146_0 hx146_1 hx146_2 hx147_0 hx147_1 hx147_2 hHeld ⊢
 refine pu_ 0 13 m1_ (any_of HT_.out s2_) ?_
 refine pu_ 1 14 m2_ (any_of HT_.out s2_) ?_
 refine pu_ 2 15 m3_ (any_of HT_.out s2_) ?_
 refine take_ (i := 3) (N := some 16) (v := ?_) (a' := ?_) m4_ rfl rfl (take_ofW HT_.out HW_.out s2_) (fun _ _ _ h => h) (Or.inl ⟨by rfl, ?_⟩) hHeld ?_ ?_
 rotate_left
 {
 rintro w' ⟨s0, s1, s2, s3, s4, s5, s6, s7, s8⟩
 go_simp
 with_reducible rfl}
 rotate_left
 · exact p1_
 refine one_ (i := 4) (N := some 17) m5_ rfl rfl (one_of HT_.out s2_) (by decide) (fun K hK => ?_)
 refine goes_ Try.func97 s2_ rfl #[.agg #[.int .i64 ((rd_T45 l0 x3_1).f0), .int .i64 ((rd_T45 l0 x3_1).f1), .int .i64 ((rd_T45 l0 x3_1).f2)]] (by rfl) rfl rfl s3_ ?_
 with_reducible refine (spec_l06Strike.calls ((rd_T45 l0 x3_1).f0) ((rd_T45 l0 x3_1).f1) ((rd_T45 l0 x3_1).f2) true _ A5.out).mono ?_
 rintro e w15 ⟨rfl, hb⟩
 refine ⟨_, rfl, ?_⟩
 replace HB := Aside0.mk (below_step (y1_ HB.out) hb)
 (try clear hb)
 (try clear hb2)
 (try clear hk)
 (try clear hi)
 refine hK.out _ _ ⟨((HB.out.cell (World.block_lt_of_cell? w _ hw144_0)).trans hw144_0), ((HB.out.cell (World.block_lt_of_cell? w _ hw144_1)).trans hw144_1), ((HB.out.cell (World.block_lt_of_cell? w _ hw144_2)).trans hw144_2), ((HB.out.cell (World.block_lt_of_cell? w _ hw146_0)).trans hw146_0), ((HB.out.cell (World.block_lt_of_cell? w _ hw146_1)).trans hw146_1), ((HB.out.cell (World.block_lt_of_cell? w _ hw146_2)).trans hw146_2), ((HB.out.cell (World.block_lt_of_cell? w _ hw147_0)).trans hw147_0), ((HB.out.cell (World.block_lt_of_cell? w _ hw147_1)).trans hw147_1), ((HB.out.cell (World.block_lt_of_cell? w _ hw147_2)).trans hw147_2)⟩ (fun hHeld => ?_)
 clear hK K
 refine norm_ (a' := ?_) ?_ ?_
 rotate_left
 {
 show Act.put _ (some 17) _ = _
 simp only [Act.put, List.setIfInBounds_toArray, List.set_cons_zero, List.set_cons_succ, i64_w, i32_w]
 rfl}
 refine pu_ 5 18 m6_ (any_of HT_.out s2_) ?_
 refine pu_ 6 19 m7_ (any_of HT_.out s2_) ?_
 refine pu_ 7 20 m8_ (any_of HT_.out s2_) ?_
 refine pu_ 8 21 m9_ (any_of HT_.out s2_) ?_
 refine pu_ 9 22 m10_ (any_of HT_.out s2_) ?_
 refine pu_ 10 23 m11_ (any_of HT_.out s2_) ?_
 refine pu_ 11 24 m12_ (any_of HT_.out s2_) ?_
 refine pu_ 12 25 m13_ (any_of HT_.out s2_) ?_
 refine pu_ 13 26 m14_ (any_of HT_.out s2_) ?_
 refine pu_ 15 28 m15_ (any_of HT_.out s2_) ?_
 refine pu_ 16 29 m16_ (any_of HT_.out s2_) ?_
 refine pu_ 17 30 m17_ (any_of HT_.out s2_) ?_
 refine pu_ 18 31 m18_ (any_of HT_.out s2_) ?_
 refine pu_ 19 32 m19_ (any_of HT_.out s2_) ?_
 refine take_ (i := 14) (N := some 27) (v := ?_) (a' := ?_) m20_ rfl rfl (take_ofW HT_.out HW_.out s2_) (fun _ _ _ h => h) (Or.inl ⟨by rfl, ?_⟩) hHeld ?_ ?_
 rotate_left
 {
 rintro w' ⟨s0, s1, s2, s3, s4, s5, s6, s7, s8⟩
 go_simp
 with_reducible rfl}
 rotate_left
 · exact p1_
 refine take_ (i := 20) (N := some 33) (v := ?_) (a' := ?_) m21_ rfl rfl (take_ofW HT_.out HW_.out s2_) (fun _ _ _ h => h) (Or.inl ⟨by rfl, ?_⟩) hHeld ?_ ?_
 rotate_left
 {
 rintro w' ⟨s0, s1, s2, s3, s4, s5, s6, s7, s8⟩
 go_simp
 with_reducible rfl}
 rotate_left
 · exact p1_
 refine pu_ 21 34 m22_ (any_of HT_.out s2_) ?_
 refine pu_ 22 35 m23_ (any_of HT_.out s2_) ?_
 refine pu_ 23 36 m24_ (any_of HT_.out s2_) ?_
 refine done_ (done_of HT_.out s2_) ?_
 try go_wp2
 go_roundg k1
 case measure => have := HK1.out; omega
 case rel => exact ⟨(wrap64 (x3_1 + 1)), s1_, H', ⟨by have := HK1.out; omega⟩, ⟨by repeat (first | (with_reducible first | exact HB.out | apply below_alloc | apply pw_below_drewN | apply below_drew1) | exact HB.out)⟩⟩}}
 {
 rw [if_neg c10] at H
 exact absurd H (by simp)}}
 {
 rw [if_neg c9] at H
 exact absurd H (by simp)}}
 {
 rw [if_neg c7] at H
 have c7b0 : decide (0 < x3_1) = false := decide_eq_false c7
 clear c7
 have H' := Aside0.mk H
 clear H
 try go_wp2
 replace HB := Aside0.mk (below_drew1 HB.out)
 have p144 : 0 ≤ (x3_1 : Int) := of_decide_eq_true (by first | (with_reducible assumption) | assumption)
 have q144 : x3_1 < (l0.length : Int) := of_decide_eq_true (by first | (with_reducible assumption) | assumption)
 obtain ⟨ad144, e144, hx144_0, hx144_1, hx144_2⟩ := at_T45 HR0.out x3_1 p144 q144
 have hw144_2 := hx144_2
 have hw144_1 := hx144_1
 have hw144_0 := hx144_0
 cases e144
 replace hx144_0 := (HB.out.cell (World.block_lt_of_cell? w _ hx144_0)).trans hx144_0
 replace hx144_1 := (HB.out.cell (World.block_lt_of_cell? w _ hx144_1)).trans hx144_1
 replace hx144_2 := (HB.out.cell (World.block_lt_of_cell? w _ hx144_2)).trans hx144_2
 replace p144 := eq_true p144
 replace q144 := eq_true q144
 refine start_ (n := 24) (S := fun w' => w'.cell? (ad144.add ((x3_1).toNat * 3)) = some (.int .i64 ((rd_T45 l0 x3_1).f0)) ∧ w'.cell? ⟨(ad144.add ((x3_1).toNat * 3)).block, (ad144.add ((x3_1).toNat * 3)).off + 1, none⟩ = some (.int .i64 ((rd_T45 l0 x3_1).f1)) ∧ w'.cell? ⟨(ad144.add ((x3_1).toNat * 3)).block, (ad144.add ((x3_1).toNat * 3)).off + 2, none⟩ = some (.int .i64 ((rd_T45 l0 x3_1).f2))) (ds := []) m0_ s2_ rfl rfl ⟨((HB.out.cell (World.block_lt_of_cell? w _ hw144_0)).trans hw144_0), ((HB.out.cell (World.block_lt_of_cell? w _ hw144_1)).trans hw144_1), ((HB.out.cell (World.block_lt_of_cell? w _ hw144_2)).trans hw144_2)⟩ (fun hHeld => ?_); refine with_tabW spec_l06Strikes.tab6 spec_l06Strikes.bits6 (fun HT_ HW_ => ?_)
 generalize wr.drew = w16 at HB hx144_0 hx144_1 hx144_2 hHeld ⊢
 refine pu_ 0 13 m1_ (any_of HT_.out s2_) ?_
 refine pu_ 1 14 m2_ (any_of HT_.out s2_) ?_
 refine pu_ 2 15 m3_ (any_of HT_.out s2_) ?_
 refine take_ (i := 3) (N := some 16) (v := ?_) (a' := ?_) m4_ rfl rfl (take_ofW HT_.out HW_.out s2_) (fun _ _ _ h => h) (Or.inl ⟨by rfl, ?_⟩) hHeld ?_ ?_
 rotate_left
 {
 rintro w' ⟨s0, s1, s2⟩
 go_simp
 with_reducible rfl}
 rotate_left
 · exact p1_
 refine one_ (i := 4) (N := some 17) m5_ rfl rfl (one_of HT_.out s2_) (by decide) (fun K hK => ?_)
 refine goes_ Try.func97 s2_ rfl #[.agg #[.int .i64 ((rd_T45 l0 x3_1).f0), .int .i64 ((rd_T45 l0 x3_1).f1), .int .i64 ((rd_T45 l0 x3_1).f2)]] (by rfl) rfl rfl s3_ ?_
 with_reducible refine (spec_l06Strike.calls ((rd_T45 l0 x3_1).f0) ((rd_T45 l0 x3_1).f1) ((rd_T45 l0 x3_1).f2) true _ A5.out).mono ?_
 rintro e w17 ⟨rfl, hb⟩
 refine ⟨_, rfl, ?_⟩
 replace HB := Aside0.mk (below_step (y1_ HB.out) hb)
 (try clear hb)
 (try clear hb2)
 (try clear hk)
 (try clear hi)
 refine hK.out _ _ ⟨((HB.out.cell (World.block_lt_of_cell? w _ hw144_0)).trans hw144_0), ((HB.out.cell (World.block_lt_of_cell? w _ hw144_1)).trans hw144_1), ((HB.out.cell (World.block_lt_of_cell? w _ hw144_2)).trans hw144_2)⟩ (fun hHeld => ?_)
 clear hK K
 refine norm_ (a' := ?_) ?_ ?_
 rotate_left
 {
 show Act.put _ (some 17) _ = _
 simp only [Act.put, List.setIfInBounds_toArray, List.set_cons_zero, List.set_cons_succ, i64_w, i32_w]
 rfl}
 refine pu_ 5 18 m6_ (any_of HT_.out s2_) ?_
 refine pu_ 6 19 m7_ (any_of HT_.out s2_) ?_
 refine pu_ 7 20 m8_ (any_of HT_.out s2_) ?_
 refine pu_ 8 21 m9_ (any_of HT_.out s2_) ?_
 refine pu_ 9 22 m10_ (any_of HT_.out s2_) ?_
 refine pn_ 10 23 m11_ (any_of HT_.out s2_) ?_
 refine pn_ 11 24 m12_ (any_of HT_.out s2_) ?_
 refine pn_ 12 25 m13_ (any_of HT_.out s2_) ?_
 refine pn_ 13 26 m14_ (any_of HT_.out s2_) ?_
 refine pn_ 14 27 m25_ (any_of HT_.out s2_) ?_
 refine pn_ 15 28 m26_ (any_of HT_.out s2_) ?_
 refine pn_ 16 29 m27_ (any_of HT_.out s2_) ?_
 refine pn_ 17 30 m28_ (any_of HT_.out s2_) ?_
 refine pn_ 18 31 m29_ (any_of HT_.out s2_) ?_
 refine pn_ 19 32 m20_ (any_of HT_.out s2_) ?_
 refine pn_ 20 33 m21_ (any_of HT_.out s2_) ?_
 refine pn_ 21 34 m22_ (any_of HT_.out s2_) ?_
 refine pu_ 22 35 m23_ (any_of HT_.out s2_) ?_
 refine pu_ 23 36 m24_ (any_of HT_.out s2_) ?_
 refine done_ (done_of HT_.out s2_) ?_
 try go_wp2
 go_roundg k1
 case measure => have := HK1.out; omega
 case rel => exact ⟨(wrap64 (x3_1 + 1)), s1_, H', ⟨by have := HK1.out; omega⟩, ⟨by repeat (first | (with_reducible first | exact HB.out | apply below_alloc | apply pw_below_drewN | apply below_drew1) | exact HB.out)⟩⟩}}
 {
 replace c6 := Bool.eq_false_iff.mpr c6
 subst c6
 have H1 : (some false) = some r := by rw [if_neg (show ¬ (false = true) by decide)] at H; exact H
 clear H
 have H := H1
 clear H1
 obtain rfl := Option.some.inj H
 try go_wp2
 replace HB := Aside0.mk (below_drew1 HB.out)
 have p144 : 0 ≤ (x3_1 : Int) := of_decide_eq_true (by first | (with_reducible assumption) | assumption)
 have q144 : x3_1 < (l0.length : Int) := of_decide_eq_true (by first | (with_reducible assumption) | assumption)
 obtain ⟨ad144, e144, hx144_0, hx144_1, hx144_2⟩ := at_T45 HR0.out x3_1 p144 q144
 have hw144_2 := hx144_2
 have hw144_1 := hx144_1
 have hw144_0 := hx144_0
 cases e144
 replace hx144_0 := (HB.out.cell (World.block_lt_of_cell? w _ hx144_0)).trans hx144_0
 replace hx144_1 := (HB.out.cell (World.block_lt_of_cell? w _ hx144_1)).trans hx144_1
 replace hx144_2 := (HB.out.cell (World.block_lt_of_cell? w _ hx144_2)).trans hx144_2
 replace p144 := eq_true p144
 replace q144 := eq_true q144
 refine start_ (n := 24) (S := fun w' => w'.cell? (ad144.add ((x3_1).toNat * 3)) = some (.int .i64 ((rd_T45 l0 x3_1).f0)) ∧ w'.cell? ⟨(ad144.add ((x3_1).toNat * 3)).block, (ad144.add ((x3_1).toNat * 3)).off + 1, none⟩ = some (.int .i64 ((rd_T45 l0 x3_1).f1)) ∧ w'.cell? ⟨(ad144.add ((x3_1).toNat * 3)).block, (ad144.add ((x3_1).toNat * 3)).off + 2, none⟩ = some (.int .i64 ((rd_T45 l0 x3_1).f2))) (ds := []) m0_ s2_ rfl rfl ⟨((HB.out.cell (World.block_lt_of_cell? w _ hw144_0)).trans hw144_0), ((HB.out.cell (World.block_lt_of_cell? w _ hw144_1)).trans hw144_1), ((HB.out.cell (World.block_lt_of_cell? w _ hw144_2)).trans hw144_2)⟩ (fun hHeld => ?_); refine with_tabW spec_l06Strikes.tab6 spec_l06Strikes.bits6 (fun HT_ HW_ => ?_)
 generalize wr.drew = w18 at HB hx144_0 hx144_1 hx144_2 hHeld ⊢
 refine pu_ 0 13 m1_ (any_of HT_.out s2_) ?_
 refine pu_ 1 14 m2_ (any_of HT_.out s2_) ?_
 refine pu_ 2 15 m3_ (any_of HT_.out s2_) ?_
 refine take_ (i := 3) (N := some 16) (v := ?_) (a' := ?_) m4_ rfl rfl (take_ofW HT_.out HW_.out s2_) (fun _ _ _ h => h) (Or.inl ⟨by rfl, ?_⟩) hHeld ?_ ?_
 rotate_left
 {
 rintro w' ⟨s0, s1, s2⟩
 go_simp
 with_reducible rfl}
 rotate_left
 · exact p1_
 refine one_ (i := 4) (N := some 17) m5_ rfl rfl (one_of HT_.out s2_) (by decide) (fun K hK => ?_)
 refine goes_ Try.func97 s2_ rfl #[.agg #[.int .i64 ((rd_T45 l0 x3_1).f0), .int .i64 ((rd_T45 l0 x3_1).f1), .int .i64 ((rd_T45 l0 x3_1).f2)]] (by rfl) rfl rfl s3_ ?_
 with_reducible refine (spec_l06Strike.calls ((rd_T45 l0 x3_1).f0) ((rd_T45 l0 x3_1).f1) ((rd_T45 l0 x3_1).f2) false _ A5.out).mono ?_
 rintro e w19 ⟨rfl, hb⟩
 refine ⟨_, rfl, ?_⟩
 replace HB := Aside0.mk (below_step (y1_ HB.out) hb)
 (try clear hb)
 (try clear hb2)
 (try clear hk)
 (try clear hi)
 refine hK.out _ _ ⟨((HB.out.cell (World.block_lt_of_cell? w _ hw144_0)).trans hw144_0), ((HB.out.cell (World.block_lt_of_cell? w _ hw144_1)).trans hw144_1), ((HB.out.cell (World.block_lt_of_cell? w _ hw144_2)).trans hw144_2)⟩ (fun hHeld => ?_)
 clear hK K
 refine norm_ (a' := ?_) ?_ ?_
 rotate_left
 {
 show Act.put _ (some 17) _ = _
 simp only [Act.put, List.setIfInBounds_toArray, List.set_cons_zero, List.set_cons_succ, i64_w, i32_w]
 rfl}
 refine pu_ 5 18 m6_ (any_of HT_.out s2_) ?_
 refine pu_ 6 19 m7_ (any_of HT_.out s2_) ?_
 refine pn_ 7 20 m8_ (any_of HT_.out s2_) ?_
 refine pn_ 8 21 m9_ (any_of HT_.out s2_) ?_
 refine pn_ 9 22 m10_ (any_of HT_.out s2_) ?_
 refine pn_ 10 23 m11_ (any_of HT_.out s2_) ?_
 refine pn_ 11 24 m12_ (any_of HT_.out s2_) ?_
 refine pn_ 12 25 m13_ (any_of HT_.out s2_) ?_
 refine pn_ 13 26 m14_ (any_of HT_.out s2_) ?_
 refine pn_ 14 27 m25_ (any_of HT_.out s2_) ?_
 refine pn_ 15 28 m26_ (any_of HT_.out s2_) ?_
 refine pn_ 16 29 m27_ (any_of HT_.out s2_) ?_
 refine pn_ 17 30 m28_ (any_of HT_.out s2_) ?_
 refine pn_ 18 31 m29_ (any_of HT_.out s2_) ?_
 refine pn_ 19 32 m20_ (any_of HT_.out s2_) ?_
 refine pn_ 20 33 m21_ (any_of HT_.out s2_) ?_
 refine pn_ 21 34 m22_ (any_of HT_.out s2_) ?_
 refine pn_ 22 35 m23_ (any_of HT_.out s2_) ?_
 refine pu_ 23 36 m24_ (any_of HT_.out s2_) ?_
 refine done_ (done_of HT_.out s2_) ?_
 try go_wp2
 go_ret
 exact ⟨by first | rfl | (simp [errW_none, errW_some] <;> rfl) | (simp [*, errW_none, errW_some] <;> rfl), by repeat (first | (with_reducible first | exact HB.out | apply below_alloc | apply pw_below_drewN | apply below_drew1) | exact HB.out)⟩}}
 {
 rw [if_neg c4] at H
 exact absurd H (by simp)}}
 {
 rw [if_neg c3] at H
 have c3b0 : decide (x3_1 < (l0.length : Int)) = false := decide_eq_false c3
 clear c3
 obtain rfl := Option.some.inj H
 go_wp2
 go_ret
 exact ⟨by first | rfl | (simp [errW_none, errW_some] <;> rfl) | (simp [*, errW_none, errW_some] <;> rfl), by repeat (first | (with_reducible first | exact HB.out | apply below_alloc | apply pw_below_drewN | apply below_drew1) | exact HB.out)⟩}}}}

end Go.Proofs.Ytjfaepolmllejaa.QFnExactWorstMembers
