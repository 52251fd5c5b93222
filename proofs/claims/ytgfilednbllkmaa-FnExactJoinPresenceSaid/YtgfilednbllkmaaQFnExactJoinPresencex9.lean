-- written by a program of this session, on the lines of the kit's print
import Derived.Test.YtgfilednbllkmaaQFnExactJoinPresencex0
namespace Go.Proofs.Ytgfilednbllkmaa.QFnExactJoinPresence
open Go.RowKit Go.Proofs.YtgfilednbllkmaaW.PrintWords Go.Proofs.YtgfilednbllkmaaW.PrintLast Go.Proofs.YtgfilednbllkmaaW.PrintMore
attribute [local go_sem] max2_int min2_int max_two min_two max_three min_three max_four min_four   -- for this text's walks alone
set_option linter.unusedVariables false
set_option linter.unusedSimpArgs false

/-! ### impl_in: function 46 -/
def impl_in.f (a0 : Int) (a1 : Int) (a2 : Int) : Option (Bool) := if a0 ≥ a1 then (some (decide (a0 ≤ a2))) else (some false)
set_option maxHeartbeats 8000000 in
set_option maxRecDepth 100000 in
theorem impl_in.calls (a0 : Int) (a1 : Int) (a2 : Int) (r : Bool) (w : World) (h : impl_in.f a0 a1 a2 = some r) :
    Calls Try.prog 46 #[.int .i64 a0, .int .i64 a1, .int .i64 a2] w fun e w' => e = .returned (.bool r) ∧ Drawn0 w w' := by
  have H : (if a0 ≥ a1 then (some (decide (a0 ≤ a2))) else (some false)) = some r := h
  clear h
  by_cases c4 : a0 ≥ a1
  · rw [if_pos c4] at H
    have c4b0 : decide (a1 ≤ a0) = true := decide_eq_true c4
    clear c4
    obtain rfl := Option.some.inj H
    go_enter Try.func46, Try.ntmps46
    go_wp2
    go_ret
    exact ⟨by first | rfl | (simp; done) | (simp [*]; done), by repeat (first | exact Drawn0.refl _ | apply Drawn0.step)⟩
  · rw [if_neg c4] at H
    have c4b0 : decide (a1 ≤ a0) = false := decide_eq_false c4
    clear c4
    obtain rfl := Option.some.inj H
    go_enter Try.func46, Try.ntmps46
    go_wp2
    go_ret
    exact ⟨by first | rfl | (simp; done) | (simp [*]; done), by repeat (first | exact Drawn0.refl _ | apply Drawn0.step)⟩

/-! ### impl_isMember: function 54 -/
def impl_isMember.f (a0 : Int) : Option (Bool) := (impl_in.f a0 1 1000).bind fun t290 => (some t290)
set_option maxHeartbeats 8000000 in
set_option maxRecDepth 100000 in
theorem impl_isMember.calls (a0 : Int) (r : Bool) (w : World) (h : impl_isMember.f a0 = some r) :
    Calls Try.prog 54 #[.int .i64 a0] w fun e w' => e = .returned (.bool r) ∧ Drawn0 w w' := by
  have H : ((impl_in.f a0 1 1000).bind fun t290 => (some t290)) = some r := h
  clear h
  replace H := Option.bind_eq_some_iff.mp H
  obtain ⟨t290, A20, H⟩ := H
  replace H : (some t290) = some r := H
  have A2 := A_ A20
  clear A20
  obtain rfl := Option.some.inj H
  go_enter Try.func54, Try.ntmps54
  go_wp2_with (first | ((with_reducible refine gate_callee (f := 46) rfl ?_); refine goesL_ (some 4) rfl rfl Try.func46 (by kernel_rfl) rfl #[.int .i64 a0, .int .i64 1, .int .i64 1000] rfl (by (try simp only [List.map_toArray, List.map_cons, List.map_nil]); first | done | rfl | (simp only [List.length_drop, List.length_take]; rfl)) ?_; (with_reducible refine (impl_in.calls a0 1 1000 t290 _ A2.out).mono ?_); rintro e w' ⟨rfl, ⟨nd, rfl⟩⟩; refine ⟨_, rfl, ?_⟩))
  go_ret
  exact ⟨by first | rfl | (simp; done) | (simp [*]; done), by repeat (first | exact Drawn0.refl _ | apply Drawn0.step)⟩

/-! ### impl_isTick: function 45 -/
def impl_isTick.f (a0 : Int) : Option (Bool) := (impl_in.f a0 0 1000000).bind fun t291 => (some t291)
set_option maxHeartbeats 8000000 in
set_option maxRecDepth 100000 in
theorem impl_isTick.calls (a0 : Int) (r : Bool) (w : World) (h : impl_isTick.f a0 = some r) :
    Calls Try.prog 45 #[.int .i64 a0] w fun e w' => e = .returned (.bool r) ∧ Drawn0 w w' := by
  have H : ((impl_in.f a0 0 1000000).bind fun t291 => (some t291)) = some r := h
  clear h
  replace H := Option.bind_eq_some_iff.mp H
  obtain ⟨t291, A20, H⟩ := H
  replace H : (some t291) = some r := H
  have A2 := A_ A20
  clear A20
  obtain rfl := Option.some.inj H
  go_enter Try.func45, Try.ntmps45
  go_wp2_with (first | ((with_reducible refine gate_callee (f := 46) rfl ?_); refine goesL_ (some 4) rfl rfl Try.func46 (by kernel_rfl) rfl #[.int .i64 a0, .int .i64 0, .int .i64 1000000] rfl (by (try simp only [List.map_toArray, List.map_cons, List.map_nil]); first | done | rfl | (simp only [List.length_drop, List.length_take]; rfl)) ?_; (with_reducible refine (impl_in.calls a0 0 1000000 t291 _ A2.out).mono ?_); rintro e w' ⟨rfl, ⟨nd, rfl⟩⟩; refine ⟨_, rfl, ?_⟩))
  go_ret
  exact ⟨by first | rfl | (simp; done) | (simp [*]; done), by repeat (first | exact Drawn0.refl _ | apply Drawn0.step)⟩

/-! ### impl_leasesOk: function 55 -/
abbrev impl_leasesOk.T : Bool := true
abbrev impl_leasesOk.F : Bool := false
def impl_leasesOk.l0 : Nat → List (S63) → List (S63) → Int → Int → Option (Bool)
  | 0, _, _, _, _ => none
  | k + 1, x0, x5, x6, x7 => if x7 < x6 then (if 0 ≤ x7 then (if x7 < (x5.length : Int) then ((impl_isMember.f ((rd_T63 x5 x7).f0)).bind fun t294 => (if t294 = true then ((impl_isTick.f ((rd_T63 x5 x7).f1)).bind fun t295 => (if t295 = true then (if x7 > 0 then (if 0 ≤ (wrap64 (x7 - 1)) then (if (wrap64 (x7 - 1)) < (x0.length : Int) then (if ((rd_T63 x0 (wrap64 (x7 - 1))).f0) ≥ ((rd_T63 x5 x7).f0) then (some false) else (impl_leasesOk.l0 k x0 x5 x6 (wrap64 (x7 + 1)))) else (none)) else (none)) else (impl_leasesOk.l0 k x0 x5 x6 (wrap64 (x7 + 1)))) else (some false))) else (some false))) else (none)) else (none)) else (some (decide ((x0.length : Int) ≤ 30)))
def impl_leasesOk.f (k : Nat) (l0 : List (S63)) : Option (Bool) := impl_leasesOk.l0 k l0 l0 (l0.length : Int) 0
theorem impl_leasesOk.mono_l : ∀ k, (∀ y0 y1 y2 y3, LeO (impl_leasesOk.l0 k y0 y1 y2 y3) (impl_leasesOk.l0 (k + 1) y0 y1 y2 y3))
  | 0 => fun _ _ _ _ r h => by simp [impl_leasesOk.l0] at h
  | k + 1 => by
    have ih0 := impl_leasesOk.mono_l k
    · intro y0 y1 y2 y3
      unfold impl_leasesOk.l0
      repeat' first
      | (with_reducible exact ih0 _ _ _ _)
      | (with_reducible exact LeO.refl _)
      | (with_reducible exact LeO.none _)
      | (with_reducible refine LeO.ite ?_ ?_)
      | (with_reducible refine LeO.bind ?_ (fun _ => ?_))
      | exact ih0 _ _ _ _
      | exact LeO.none _
      | refine LeO.ite ?_ ?_
      | refine LeO.bind ?_ (fun _ => ?_)
theorem impl_leasesOk.mono : ∀ a0 k, LeO (impl_leasesOk.f k a0) (impl_leasesOk.f (k + 1) a0) := by
  intro a0 k
  have ih0 := impl_leasesOk.mono_l k
  unfold impl_leasesOk.f
  repeat' first
      | (with_reducible exact ih0 _ _ _ _)
      | (with_reducible exact LeO.refl _)
      | (with_reducible exact LeO.none _)
      | (with_reducible refine LeO.ite ?_ ?_)
      | (with_reducible refine LeO.bind ?_ (fun _ => ?_))
      | exact ih0 _ _ _ _
      | exact LeO.none _
      | refine LeO.ite ?_ ?_
      | refine LeO.bind ?_ (fun _ => ?_)
set_option maxHeartbeats 8000000 in
set_option maxRecDepth 100000 in
theorem impl_leasesOk.calls (k : Nat) (A0 : Option Addr) (c0 : Nat) (l0 : List (S63)) (r : Bool) (w : World) (hr0 : Kd.C k63 w A0 l0.length l0) (hc0 : l0.length ≤ c0) (h : impl_leasesOk.f k l0 = some r) :
    Calls Try.prog 55 #[.slice A0 l0.length c0] w fun e w' => e = .returned (.bool r) ∧ Below w.heap.size w w' := by
 have hu63 := Try.underlying63
 have HR0 := A_ hr0
 have HC0 := A_ hc0
 clear hr0 hc0
 have HB := A_ (Below.refl w.heap.size w)
 have H : (impl_leasesOk.l0 k l0 l0 (l0.length : Int) 0) = some r := h
 clear h
 have H' := A_ H
 clear H
 go_enter Try.func55, Try.ntmps55
 go_wp2
 repeat (go_quiet (fail); try go_wp2)
 go_loopg [7] k (fun kq v7 w' => ∃ (x7_1 : Int), v7 = .int .i64 x7_1 ∧ Aside0 (impl_leasesOk.l0 kq l0 l0 (l0.length : Int) x7_1 = some r) ∧ Aside0 (kq ≤ k) ∧ Aside0 (Below w.heap.size w w'))
 case atStart => exact ⟨(0), s1_, H', ⟨Nat.le_refl _⟩, ⟨y1_ HB.out⟩⟩
 case round =>
  skip
  {
 clear H'
 obtain ⟨x7_1, rfl, HA, HK1, HB⟩ := hrel
 cases gk with
 | zero => exact absurd HA.out (by simp [impl_leasesOk.l0])
 | succ k1 =>
  skip
  {
 have H := HA.out
 clear HA
 simp only [impl_leasesOk.l0] at H
 by_cases c2 : x7_1 < (l0.length : Int)
 {
 rw [if_pos c2] at H
 have c2b0 : decide (x7_1 < (l0.length : Int)) = true := decide_eq_true c2
 clear c2
 by_cases c3 : 0 ≤ x7_1
 {
 rw [if_pos c3] at H
 have c3b0 : decide (0 ≤ x7_1) = true := decide_eq_true c3
 clear c3
 by_cases c4 : x7_1 < (l0.length : Int)
 {
 rw [if_pos c4] at H
 have c4b0 : decide (x7_1 < (l0.length : Int)) = true := decide_eq_true c4
 clear c4
 replace H := Option.bind_eq_some_iff.mp H
 obtain ⟨t294, A50, H⟩ := H
 replace H : (if t294 = true then ((impl_isTick.f ((rd_T63 l0 x7_1).f1)).bind fun t295 => (if t295 = true then (if x7_1 > 0 then (if 0 ≤ (wrap64 (x7_1 - 1)) then (if (wrap64 (x7_1 - 1)) < (l0.length : Int) then (if ((rd_T63 l0 (wrap64 (x7_1 - 1))).f0) ≥ ((rd_T63 l0 x7_1).f0) then (some false) else (impl_leasesOk.l0 k1 l0 l0 (l0.length : Int) (wrap64 (x7_1 + 1)))) else (none)) else (none)) else (impl_leasesOk.l0 k1 l0 l0 (l0.length : Int) (wrap64 (x7_1 + 1)))) else (some false))) else (some false)) = some r := H
 have A5 := A_ A50
 clear A50
 by_cases c6 : t294 = true
 {
 subst c6
 have H1 : ((impl_isTick.f ((rd_T63 l0 x7_1).f1)).bind fun t295 => (if t295 = true then (if x7_1 > 0 then (if 0 ≤ (wrap64 (x7_1 - 1)) then (if (wrap64 (x7_1 - 1)) < (l0.length : Int) then (if ((rd_T63 l0 (wrap64 (x7_1 - 1))).f0) ≥ ((rd_T63 l0 x7_1).f0) then (some false) else (impl_leasesOk.l0 k1 l0 l0 (l0.length : Int) (wrap64 (x7_1 + 1)))) else (none)) else (none)) else (impl_leasesOk.l0 k1 l0 l0 (l0.length : Int) (wrap64 (x7_1 + 1)))) else (some false))) = some r := by rw [if_pos rfl] at H; exact H
 clear H
 have H := H1
 clear H1
 replace H := Option.bind_eq_some_iff.mp H
 obtain ⟨t295, A70, H⟩ := H
 replace H : (if t295 = true then (if x7_1 > 0 then (if 0 ≤ (wrap64 (x7_1 - 1)) then (if (wrap64 (x7_1 - 1)) < (l0.length : Int) then (if ((rd_T63 l0 (wrap64 (x7_1 - 1))).f0) ≥ ((rd_T63 l0 x7_1).f0) then (some false) else (impl_leasesOk.l0 k1 l0 l0 (l0.length : Int) (wrap64 (x7_1 + 1)))) else (none)) else (none)) else (impl_leasesOk.l0 k1 l0 l0 (l0.length : Int) (wrap64 (x7_1 + 1)))) else (some false)) = some r := H
 have A7 := A_ A70
 clear A70
 by_cases c8 : t295 = true
 {
 subst c8
 have H1 : (if x7_1 > 0 then (if 0 ≤ (wrap64 (x7_1 - 1)) then (if (wrap64 (x7_1 - 1)) < (l0.length : Int) then (if ((rd_T63 l0 (wrap64 (x7_1 - 1))).f0) ≥ ((rd_T63 l0 x7_1).f0) then (some false) else (impl_leasesOk.l0 k1 l0 l0 (l0.length : Int) (wrap64 (x7_1 + 1)))) else (none)) else (none)) else (impl_leasesOk.l0 k1 l0 l0 (l0.length : Int) (wrap64 (x7_1 + 1)))) = some r := by rw [if_pos rfl] at H; exact H
 clear H
 have H := H1
 clear H1
 by_cases c9 : x7_1 > 0
 {
 rw [if_pos c9] at H
 have c9b0 : decide (0 < x7_1) = true := decide_eq_true c9
 clear c9
 obtain ⟨ji10, hji10⟩ : ∃ j_ : Int, (wrap64 (x7_1 - 1)) = j_ := ⟨_, rfl⟩
 replace H : (if 0 ≤ (ji10) then (if (ji10) < (l0.length : Int) then (if ((rd_T63 l0 (ji10)).f0) ≥ ((rd_T63 l0 x7_1).f0) then (some false) else (impl_leasesOk.l0 k1 l0 l0 (l0.length : Int) (wrap64 (x7_1 + 1)))) else (none)) else (none)) = some r := by first | (rw [hji10] at H; exact H) | (simp only [hji10] at H ⊢; exact H)
 (try rw [hji10] at A5)
 (try rw [hji10] at A7)
 have hji10w : (IntKind.i64.wrap (x7_1 - 1)) = ji10 := (i64_w _).trans hji10
 by_cases c11 : 0 ≤ (ji10)
 {
 rw [if_pos c11] at H
 have c11b0 : decide (0 ≤ (ji10)) = true := decide_eq_true c11
 clear c11
 by_cases c12 : (ji10) < (l0.length : Int)
 {
 rw [if_pos c12] at H
 have c12b0 : decide ((ji10) < (l0.length : Int)) = true := decide_eq_true c12
 clear c12
 by_cases c13 : ((rd_T63 l0 (ji10)).f0) ≥ ((rd_T63 l0 x7_1).f0)
 {
 rw [if_pos c13] at H
 have c13b0 : decide (((rd_T63 l0 x7_1).f0) ≤ ((rd_T63 l0 (ji10)).f0)) = true := decide_eq_true c13
 clear c13
 obtain rfl := Option.some.inj H
 have p292 : 0 ≤ (x7_1 : Int) := o1_
 have q292 : x7_1 < (l0.length : Int) := o1_
 obtain ⟨ad292, e292, hx292_0, hx292_1⟩ := at_T63 HR0.out x7_1 p292 q292
 cases e292
 replace hx292_0 := (HB.out.cell (World.block_lt_of_cell? w _ hx292_0)).trans hx292_0
 replace hx292_1 := (HB.out.cell (World.block_lt_of_cell? w _ hx292_1)).trans hx292_1
 replace p292 := eq_true p292
 replace q292 := eq_true q292
 go_wp2_with (first | ((with_reducible refine gate_dst (N := 4) rfl ?_); refine bx_ 4 #[.int .i64 0, .int .i64 0] 63 ?_; intro gb293 hg w14 hbox hb; have GW293 := b6_ hg HB; have GE293 := b6_ hg HB; replace HB := A_ (below_step (y1_ HB.out) hb); have BK293 := A_ (hbox); clear hb hbox hg; have hcz15_0 := c1_ BK293 0 (.int .i64 0); have hcz15_1 := c1_ BK293 1 (.int .i64 0); have hfz15_0 := f1_ BK293 0; have hfz15_1 := f1_ BK293 1; have p296 : 0 ≤ ((ji10) : Int) := o1_; have q296 : (ji10) < (l0.length : Int) := o1_; obtain ⟨ad296, e296, hx296_0, hx296_1⟩ := at_T63 HR0.out (ji10) p296 q296; obtain rfl : ad292 = ad296 := (by injection e296); have hn296_0 : ad292.block ≠ gb293 := Nat.ne_of_lt (Nat.lt_of_lt_of_le (by have := World.block_lt_of_cell? _ _ hx296_0; first | rwa [add_block] at this | exact this) GW293.out); have hn296_1 : ad292.block ≠ gb293 := Nat.ne_of_lt (Nat.lt_of_lt_of_le (by have := World.block_lt_of_cell? _ _ hx296_0; first | rwa [add_block] at this | exact this) GW293.out); replace hx296_0 := (HB.out.cell (World.block_lt_of_cell? w _ hx296_0)).trans hx296_0; replace hx296_1 := (HB.out.cell (World.block_lt_of_cell? w _ hx296_1)).trans hx296_1; replace hx296_0 := (cell_far (p := ⟨gb293, 0, none⟩) (by first | (rw [add_block]; exact hn296_0) | (show (Addr.add _ _).block ≠ _; rw [add_block]; exact hn296_0) | exact hn296_0) (.int .i64 ((rd_T63 l0 x7_1).f0))).trans hx296_0; replace hx296_1 := (cell_far (p := ⟨gb293, 0, none⟩) (by first | (rw [add_block]; exact hn296_0) | (show (Addr.add _ _).block ≠ _; rw [add_block]; exact hn296_0) | exact hn296_0) (.int .i64 ((rd_T63 l0 x7_1).f0))).trans hx296_1; replace hx296_0 := (cell_far (p := ⟨gb293, 1, none⟩) (by first | (rw [add_block]; exact hn296_1) | (show (Addr.add _ _).block ≠ _; rw [add_block]; exact hn296_1) | exact hn296_1) (.int .i64 ((rd_T63 l0 x7_1).f1))).trans hx296_0; replace hx296_1 := (cell_far (p := ⟨gb293, 1, none⟩) (by first | (rw [add_block]; exact hn296_1) | (show (Addr.add _ _).block ≠ _; rw [add_block]; exact hn296_1) | exact hn296_1) (.int .i64 ((rd_T63 l0 x7_1).f1))).trans hx296_1; (try have hy296_0 := fun (n_ : Nat) => (show ((((w14.drewN n_).setCell ⟨gb293, 0, none⟩ (.int .i64 ((rd_T63 l0 x7_1).f0))).setCell ⟨gb293, 1, none⟩ (.int .i64 ((rd_T63 l0 x7_1).f1)))).cell? _ = some _ from hx296_0)); (try have hy296_1 := fun (n_ : Nat) => (show ((((w14.drewN n_).setCell ⟨gb293, 0, none⟩ (.int .i64 ((rd_T63 l0 x7_1).f0))).setCell ⟨gb293, 1, none⟩ (.int .i64 ((rd_T63 l0 x7_1).f1)))).cell? _ = some _ from hx296_1)); clear hn296_0; clear hn296_1; replace p296 := eq_true p296; replace q296 := eq_true q296) | (go_at_call 54; (with_reducible refine (impl_isMember.calls ((rd_T63 l0 x7_1).f0) true _ A5.out).mono ?_); rintro e w' ⟨rfl, ⟨nd, rfl⟩⟩; (try exact d1_)) | (go_at_call 45; (with_reducible refine (impl_isTick.calls ((rd_T63 l0 x7_1).f1) true _ A7.out).mono ?_); rintro e w' ⟨rfl, ⟨nd, rfl⟩⟩; (try exact d1_)))
 repeat (go_quiet (first | ((with_reducible refine gate_dst (N := 4) rfl ?_); refine bx_ 4 #[.int .i64 0, .int .i64 0] 63 ?_; intro gb293 hg w14 hbox hb; have GW293 := b6_ hg HB; have GE293 := b6_ hg HB; replace HB := A_ (below_step (y1_ HB.out) hb); have BK293 := A_ (hbox); clear hb hbox hg; have hcz15_0 := c1_ BK293 0 (.int .i64 0); have hcz15_1 := c1_ BK293 1 (.int .i64 0); have hfz15_0 := f1_ BK293 0; have hfz15_1 := f1_ BK293 1; have p296 : 0 ≤ ((ji10) : Int) := o1_; have q296 : (ji10) < (l0.length : Int) := o1_; obtain ⟨ad296, e296, hx296_0, hx296_1⟩ := at_T63 HR0.out (ji10) p296 q296; obtain rfl : ad292 = ad296 := (by injection e296); have hn296_0 : ad292.block ≠ gb293 := Nat.ne_of_lt (Nat.lt_of_lt_of_le (by have := World.block_lt_of_cell? _ _ hx296_0; first | rwa [add_block] at this | exact this) GW293.out); have hn296_1 : ad292.block ≠ gb293 := Nat.ne_of_lt (Nat.lt_of_lt_of_le (by have := World.block_lt_of_cell? _ _ hx296_0; first | rwa [add_block] at this | exact this) GW293.out); replace hx296_0 := (HB.out.cell (World.block_lt_of_cell? w _ hx296_0)).trans hx296_0; replace hx296_1 := (HB.out.cell (World.block_lt_of_cell? w _ hx296_1)).trans hx296_1; replace hx296_0 := (cell_far (p := ⟨gb293, 0, none⟩) (by first | (rw [add_block]; exact hn296_0) | (show (Addr.add _ _).block ≠ _; rw [add_block]; exact hn296_0) | exact hn296_0) (.int .i64 ((rd_T63 l0 x7_1).f0))).trans hx296_0; replace hx296_1 := (cell_far (p := ⟨gb293, 0, none⟩) (by first | (rw [add_block]; exact hn296_0) | (show (Addr.add _ _).block ≠ _; rw [add_block]; exact hn296_0) | exact hn296_0) (.int .i64 ((rd_T63 l0 x7_1).f0))).trans hx296_1; replace hx296_0 := (cell_far (p := ⟨gb293, 1, none⟩) (by first | (rw [add_block]; exact hn296_1) | (show (Addr.add _ _).block ≠ _; rw [add_block]; exact hn296_1) | exact hn296_1) (.int .i64 ((rd_T63 l0 x7_1).f1))).trans hx296_0; replace hx296_1 := (cell_far (p := ⟨gb293, 1, none⟩) (by first | (rw [add_block]; exact hn296_1) | (show (Addr.add _ _).block ≠ _; rw [add_block]; exact hn296_1) | exact hn296_1) (.int .i64 ((rd_T63 l0 x7_1).f1))).trans hx296_1; (try have hy296_0 := fun (n_ : Nat) => (show ((((w14.drewN n_).setCell ⟨gb293, 0, none⟩ (.int .i64 ((rd_T63 l0 x7_1).f0))).setCell ⟨gb293, 1, none⟩ (.int .i64 ((rd_T63 l0 x7_1).f1)))).cell? _ = some _ from hx296_0)); (try have hy296_1 := fun (n_ : Nat) => (show ((((w14.drewN n_).setCell ⟨gb293, 0, none⟩ (.int .i64 ((rd_T63 l0 x7_1).f0))).setCell ⟨gb293, 1, none⟩ (.int .i64 ((rd_T63 l0 x7_1).f1)))).cell? _ = some _ from hx296_1)); clear hn296_0; clear hn296_1; replace p296 := eq_true p296; replace q296 := eq_true q296) | (go_at_call 54; (with_reducible refine (impl_isMember.calls ((rd_T63 l0 x7_1).f0) true _ A5.out).mono ?_); rintro e w' ⟨rfl, ⟨nd, rfl⟩⟩; (try exact d1_)) | (go_at_call 45; (with_reducible refine (impl_isTick.calls ((rd_T63 l0 x7_1).f1) true _ A7.out).mono ?_); rintro e w' ⟨rfl, ⟨nd, rfl⟩⟩; (try exact d1_))); try go_wp2_with (first | ((with_reducible refine gate_dst (N := 4) rfl ?_); refine bx_ 4 #[.int .i64 0, .int .i64 0] 63 ?_; intro gb293 hg w14 hbox hb; have GW293 := b6_ hg HB; have GE293 := b6_ hg HB; replace HB := A_ (below_step (y1_ HB.out) hb); have BK293 := A_ (hbox); clear hb hbox hg; have hcz15_0 := c1_ BK293 0 (.int .i64 0); have hcz15_1 := c1_ BK293 1 (.int .i64 0); have hfz15_0 := f1_ BK293 0; have hfz15_1 := f1_ BK293 1; have p296 : 0 ≤ ((ji10) : Int) := o1_; have q296 : (ji10) < (l0.length : Int) := o1_; obtain ⟨ad296, e296, hx296_0, hx296_1⟩ := at_T63 HR0.out (ji10) p296 q296; obtain rfl : ad292 = ad296 := (by injection e296); have hn296_0 : ad292.block ≠ gb293 := Nat.ne_of_lt (Nat.lt_of_lt_of_le (by have := World.block_lt_of_cell? _ _ hx296_0; first | rwa [add_block] at this | exact this) GW293.out); have hn296_1 : ad292.block ≠ gb293 := Nat.ne_of_lt (Nat.lt_of_lt_of_le (by have := World.block_lt_of_cell? _ _ hx296_0; first | rwa [add_block] at this | exact this) GW293.out); replace hx296_0 := (HB.out.cell (World.block_lt_of_cell? w _ hx296_0)).trans hx296_0; replace hx296_1 := (HB.out.cell (World.block_lt_of_cell? w _ hx296_1)).trans hx296_1; replace hx296_0 := (cell_far (p := ⟨gb293, 0, none⟩) (by first | (rw [add_block]; exact hn296_0) | (show (Addr.add _ _).block ≠ _; rw [add_block]; exact hn296_0) | exact hn296_0) (.int .i64 ((rd_T63 l0 x7_1).f0))).trans hx296_0; replace hx296_1 := (cell_far (p := ⟨gb293, 0, none⟩) (by first | (rw [add_block]; exact hn296_0) | (show (Addr.add _ _).block ≠ _; rw [add_block]; exact hn296_0) | exact hn296_0) (.int .i64 ((rd_T63 l0 x7_1).f0))).trans hx296_1; replace hx296_0 := (cell_far (p := ⟨gb293, 1, none⟩) (by first | (rw [add_block]; exact hn296_1) | (show (Addr.add _ _).block ≠ _; rw [add_block]; exact hn296_1) | exact hn296_1) (.int .i64 ((rd_T63 l0 x7_1).f1))).trans hx296_0; replace hx296_1 := (cell_far (p := ⟨gb293, 1, none⟩) (by first | (rw [add_block]; exact hn296_1) | (show (Addr.add _ _).block ≠ _; rw [add_block]; exact hn296_1) | exact hn296_1) (.int .i64 ((rd_T63 l0 x7_1).f1))).trans hx296_1; (try have hy296_0 := fun (n_ : Nat) => (show ((((w14.drewN n_).setCell ⟨gb293, 0, none⟩ (.int .i64 ((rd_T63 l0 x7_1).f0))).setCell ⟨gb293, 1, none⟩ (.int .i64 ((rd_T63 l0 x7_1).f1)))).cell? _ = some _ from hx296_0)); (try have hy296_1 := fun (n_ : Nat) => (show ((((w14.drewN n_).setCell ⟨gb293, 0, none⟩ (.int .i64 ((rd_T63 l0 x7_1).f0))).setCell ⟨gb293, 1, none⟩ (.int .i64 ((rd_T63 l0 x7_1).f1)))).cell? _ = some _ from hx296_1)); clear hn296_0; clear hn296_1; replace p296 := eq_true p296; replace q296 := eq_true q296) | (go_at_call 54; (with_reducible refine (impl_isMember.calls ((rd_T63 l0 x7_1).f0) true _ A5.out).mono ?_); rintro e w' ⟨rfl, ⟨nd, rfl⟩⟩; (try exact d1_)) | (go_at_call 45; (with_reducible refine (impl_isTick.calls ((rd_T63 l0 x7_1).f1) true _ A7.out).mono ?_); rintro e w' ⟨rfl, ⟨nd, rfl⟩⟩; (try exact d1_))))
 go_ret
 exact ⟨by first | rfl | (simp [errW_none, errW_some] <;> rfl) | (simp only [← hji10]; first | rfl | (simp [errW_none, errW_some] <;> rfl)) | (simp [*, errW_none, errW_some] <;> rfl), by repeat (first | (with_reducible first | exact HB.out | apply below_alloc | apply pw_below_drewN | apply below_drew1 | refine below_set ?_ GE293.out) | exact HB.out)⟩}
 {
 rw [if_neg c13] at H
 have c13b0 : decide (((rd_T63 l0 x7_1).f0) ≤ ((rd_T63 l0 (ji10)).f0)) = false := decide_eq_false c13
 clear c13
 have H' := A_ H
 clear H
 have p292 : 0 ≤ (x7_1 : Int) := o1_
 have q292 : x7_1 < (l0.length : Int) := o1_
 obtain ⟨ad292, e292, hx292_0, hx292_1⟩ := at_T63 HR0.out x7_1 p292 q292
 cases e292
 replace hx292_0 := (HB.out.cell (World.block_lt_of_cell? w _ hx292_0)).trans hx292_0
 replace hx292_1 := (HB.out.cell (World.block_lt_of_cell? w _ hx292_1)).trans hx292_1
 replace p292 := eq_true p292
 replace q292 := eq_true q292
 go_wp2_with (first | ((with_reducible refine gate_dst (N := 4) rfl ?_); refine bx_ 4 #[.int .i64 0, .int .i64 0] 63 ?_; intro gb293 hg w16 hbox hb; have GW293 := b6_ hg HB; have GE293 := b6_ hg HB; replace HB := A_ (below_step (y1_ HB.out) hb); have BK293 := A_ (hbox); clear hb hbox hg; have hcz17_0 := c1_ BK293 0 (.int .i64 0); have hcz17_1 := c1_ BK293 1 (.int .i64 0); have hfz17_0 := f1_ BK293 0; have hfz17_1 := f1_ BK293 1; have p296 : 0 ≤ ((ji10) : Int) := o1_; have q296 : (ji10) < (l0.length : Int) := o1_; obtain ⟨ad296, e296, hx296_0, hx296_1⟩ := at_T63 HR0.out (ji10) p296 q296; obtain rfl : ad292 = ad296 := (by injection e296); have hn296_0 : ad292.block ≠ gb293 := Nat.ne_of_lt (Nat.lt_of_lt_of_le (by have := World.block_lt_of_cell? _ _ hx296_0; first | rwa [add_block] at this | exact this) GW293.out); have hn296_1 : ad292.block ≠ gb293 := Nat.ne_of_lt (Nat.lt_of_lt_of_le (by have := World.block_lt_of_cell? _ _ hx296_0; first | rwa [add_block] at this | exact this) GW293.out); replace hx296_0 := (HB.out.cell (World.block_lt_of_cell? w _ hx296_0)).trans hx296_0; replace hx296_1 := (HB.out.cell (World.block_lt_of_cell? w _ hx296_1)).trans hx296_1; replace hx296_0 := (cell_far (p := ⟨gb293, 0, none⟩) (by first | (rw [add_block]; exact hn296_0) | (show (Addr.add _ _).block ≠ _; rw [add_block]; exact hn296_0) | exact hn296_0) (.int .i64 ((rd_T63 l0 x7_1).f0))).trans hx296_0; replace hx296_1 := (cell_far (p := ⟨gb293, 0, none⟩) (by first | (rw [add_block]; exact hn296_0) | (show (Addr.add _ _).block ≠ _; rw [add_block]; exact hn296_0) | exact hn296_0) (.int .i64 ((rd_T63 l0 x7_1).f0))).trans hx296_1; replace hx296_0 := (cell_far (p := ⟨gb293, 1, none⟩) (by first | (rw [add_block]; exact hn296_1) | (show (Addr.add _ _).block ≠ _; rw [add_block]; exact hn296_1) | exact hn296_1) (.int .i64 ((rd_T63 l0 x7_1).f1))).trans hx296_0; replace hx296_1 := (cell_far (p := ⟨gb293, 1, none⟩) (by first | (rw [add_block]; exact hn296_1) | (show (Addr.add _ _).block ≠ _; rw [add_block]; exact hn296_1) | exact hn296_1) (.int .i64 ((rd_T63 l0 x7_1).f1))).trans hx296_1; (try have hy296_0 := fun (n_ : Nat) => (show ((((w16.drewN n_).setCell ⟨gb293, 0, none⟩ (.int .i64 ((rd_T63 l0 x7_1).f0))).setCell ⟨gb293, 1, none⟩ (.int .i64 ((rd_T63 l0 x7_1).f1)))).cell? _ = some _ from hx296_0)); (try have hy296_1 := fun (n_ : Nat) => (show ((((w16.drewN n_).setCell ⟨gb293, 0, none⟩ (.int .i64 ((rd_T63 l0 x7_1).f0))).setCell ⟨gb293, 1, none⟩ (.int .i64 ((rd_T63 l0 x7_1).f1)))).cell? _ = some _ from hx296_1)); clear hn296_0; clear hn296_1; replace p296 := eq_true p296; replace q296 := eq_true q296) | (go_at_call 54; (with_reducible refine (impl_isMember.calls ((rd_T63 l0 x7_1).f0) true _ A5.out).mono ?_); rintro e w' ⟨rfl, ⟨nd, rfl⟩⟩; (try exact d1_)) | (go_at_call 45; (with_reducible refine (impl_isTick.calls ((rd_T63 l0 x7_1).f1) true _ A7.out).mono ?_); rintro e w' ⟨rfl, ⟨nd, rfl⟩⟩; (try exact d1_)))
 repeat (go_quiet (first | ((with_reducible refine gate_dst (N := 4) rfl ?_); refine bx_ 4 #[.int .i64 0, .int .i64 0] 63 ?_; intro gb293 hg w16 hbox hb; have GW293 := b6_ hg HB; have GE293 := b6_ hg HB; replace HB := A_ (below_step (y1_ HB.out) hb); have BK293 := A_ (hbox); clear hb hbox hg; have hcz17_0 := c1_ BK293 0 (.int .i64 0); have hcz17_1 := c1_ BK293 1 (.int .i64 0); have hfz17_0 := f1_ BK293 0; have hfz17_1 := f1_ BK293 1; have p296 : 0 ≤ ((ji10) : Int) := o1_; have q296 : (ji10) < (l0.length : Int) := o1_; obtain ⟨ad296, e296, hx296_0, hx296_1⟩ := at_T63 HR0.out (ji10) p296 q296; obtain rfl : ad292 = ad296 := (by injection e296); have hn296_0 : ad292.block ≠ gb293 := Nat.ne_of_lt (Nat.lt_of_lt_of_le (by have := World.block_lt_of_cell? _ _ hx296_0; first | rwa [add_block] at this | exact this) GW293.out); have hn296_1 : ad292.block ≠ gb293 := Nat.ne_of_lt (Nat.lt_of_lt_of_le (by have := World.block_lt_of_cell? _ _ hx296_0; first | rwa [add_block] at this | exact this) GW293.out); replace hx296_0 := (HB.out.cell (World.block_lt_of_cell? w _ hx296_0)).trans hx296_0; replace hx296_1 := (HB.out.cell (World.block_lt_of_cell? w _ hx296_1)).trans hx296_1; replace hx296_0 := (cell_far (p := ⟨gb293, 0, none⟩) (by first | (rw [add_block]; exact hn296_0) | (show (Addr.add _ _).block ≠ _; rw [add_block]; exact hn296_0) | exact hn296_0) (.int .i64 ((rd_T63 l0 x7_1).f0))).trans hx296_0; replace hx296_1 := (cell_far (p := ⟨gb293, 0, none⟩) (by first | (rw [add_block]; exact hn296_0) | (show (Addr.add _ _).block ≠ _; rw [add_block]; exact hn296_0) | exact hn296_0) (.int .i64 ((rd_T63 l0 x7_1).f0))).trans hx296_1; replace hx296_0 := (cell_far (p := ⟨gb293, 1, none⟩) (by first | (rw [add_block]; exact hn296_1) | (show (Addr.add _ _).block ≠ _; rw [add_block]; exact hn296_1) | exact hn296_1) (.int .i64 ((rd_T63 l0 x7_1).f1))).trans hx296_0; replace hx296_1 := (cell_far (p := ⟨gb293, 1, none⟩) (by first | (rw [add_block]; exact hn296_1) | (show (Addr.add _ _).block ≠ _; rw [add_block]; exact hn296_1) | exact hn296_1) (.int .i64 ((rd_T63 l0 x7_1).f1))).trans hx296_1; (try have hy296_0 := fun (n_ : Nat) => (show ((((w16.drewN n_).setCell ⟨gb293, 0, none⟩ (.int .i64 ((rd_T63 l0 x7_1).f0))).setCell ⟨gb293, 1, none⟩ (.int .i64 ((rd_T63 l0 x7_1).f1)))).cell? _ = some _ from hx296_0)); (try have hy296_1 := fun (n_ : Nat) => (show ((((w16.drewN n_).setCell ⟨gb293, 0, none⟩ (.int .i64 ((rd_T63 l0 x7_1).f0))).setCell ⟨gb293, 1, none⟩ (.int .i64 ((rd_T63 l0 x7_1).f1)))).cell? _ = some _ from hx296_1)); clear hn296_0; clear hn296_1; replace p296 := eq_true p296; replace q296 := eq_true q296) | (go_at_call 54; (with_reducible refine (impl_isMember.calls ((rd_T63 l0 x7_1).f0) true _ A5.out).mono ?_); rintro e w' ⟨rfl, ⟨nd, rfl⟩⟩; (try exact d1_)) | (go_at_call 45; (with_reducible refine (impl_isTick.calls ((rd_T63 l0 x7_1).f1) true _ A7.out).mono ?_); rintro e w' ⟨rfl, ⟨nd, rfl⟩⟩; (try exact d1_))); try go_wp2_with (first | ((with_reducible refine gate_dst (N := 4) rfl ?_); refine bx_ 4 #[.int .i64 0, .int .i64 0] 63 ?_; intro gb293 hg w16 hbox hb; have GW293 := b6_ hg HB; have GE293 := b6_ hg HB; replace HB := A_ (below_step (y1_ HB.out) hb); have BK293 := A_ (hbox); clear hb hbox hg; have hcz17_0 := c1_ BK293 0 (.int .i64 0); have hcz17_1 := c1_ BK293 1 (.int .i64 0); have hfz17_0 := f1_ BK293 0; have hfz17_1 := f1_ BK293 1; have p296 : 0 ≤ ((ji10) : Int) := o1_; have q296 : (ji10) < (l0.length : Int) := o1_; obtain ⟨ad296, e296, hx296_0, hx296_1⟩ := at_T63 HR0.out (ji10) p296 q296; obtain rfl : ad292 = ad296 := (by injection e296); have hn296_0 : ad292.block ≠ gb293 := Nat.ne_of_lt (Nat.lt_of_lt_of_le (by have := World.block_lt_of_cell? _ _ hx296_0; first | rwa [add_block] at this | exact this) GW293.out); have hn296_1 : ad292.block ≠ gb293 := Nat.ne_of_lt (Nat.lt_of_lt_of_le (by have := World.block_lt_of_cell? _ _ hx296_0; first | rwa [add_block] at this | exact this) GW293.out); replace hx296_0 := (HB.out.cell (World.block_lt_of_cell? w _ hx296_0)).trans hx296_0; replace hx296_1 := (HB.out.cell (World.block_lt_of_cell? w _ hx296_1)).trans hx296_1; replace hx296_0 := (cell_far (p := ⟨gb293, 0, none⟩) (by first | (rw [add_block]; exact hn296_0) | (show (Addr.add _ _).block ≠ _; rw [add_block]; exact hn296_0) | exact hn296_0) (.int .i64 ((rd_T63 l0 x7_1).f0))).trans hx296_0; replace hx296_1 := (cell_far (p := ⟨gb293, 0, none⟩) (by first | (rw [add_block]; exact hn296_0) | (show (Addr.add _ _).block ≠ _; rw [add_block]; exact hn296_0) | exact hn296_0) (.int .i64 ((rd_T63 l0 x7_1).f0))).trans hx296_1; replace hx296_0 := (cell_far (p := ⟨gb293, 1, none⟩) (by first | (rw [add_block]; exact hn296_1) | (show (Addr.add _ _).block ≠ _; rw [add_block]; exact hn296_1) | exact hn296_1) (.int .i64 ((rd_T63 l0 x7_1).f1))).trans hx296_0; replace hx296_1 := (cell_far (p := ⟨gb293, 1, none⟩) (by first | (rw [add_block]; exact hn296_1) | (show (Addr.add _ _).block ≠ _; rw [add_block]; exact hn296_1) | exact hn296_1) (.int .i64 ((rd_T63 l0 x7_1).f1))).trans hx296_1; (try have hy296_0 := fun (n_ : Nat) => (show ((((w16.drewN n_).setCell ⟨gb293, 0, none⟩ (.int .i64 ((rd_T63 l0 x7_1).f0))).setCell ⟨gb293, 1, none⟩ (.int .i64 ((rd_T63 l0 x7_1).f1)))).cell? _ = some _ from hx296_0)); (try have hy296_1 := fun (n_ : Nat) => (show ((((w16.drewN n_).setCell ⟨gb293, 0, none⟩ (.int .i64 ((rd_T63 l0 x7_1).f0))).setCell ⟨gb293, 1, none⟩ (.int .i64 ((rd_T63 l0 x7_1).f1)))).cell? _ = some _ from hx296_1)); clear hn296_0; clear hn296_1; replace p296 := eq_true p296; replace q296 := eq_true q296) | (go_at_call 54; (with_reducible refine (impl_isMember.calls ((rd_T63 l0 x7_1).f0) true _ A5.out).mono ?_); rintro e w' ⟨rfl, ⟨nd, rfl⟩⟩; (try exact d1_)) | (go_at_call 45; (with_reducible refine (impl_isTick.calls ((rd_T63 l0 x7_1).f1) true _ A7.out).mono ?_); rintro e w' ⟨rfl, ⟨nd, rfl⟩⟩; (try exact d1_))))
 go_roundg k1
 case measure => have := HK1.out; omega
 case rel => exact ⟨(wrap64 (x7_1 + 1)), s1_, H', ⟨by have := HK1.out; omega⟩, ⟨by repeat (first | (with_reducible first | exact HB.out | apply below_alloc | apply pw_below_drewN | apply below_drew1 | refine below_set ?_ GE293.out) | exact HB.out)⟩⟩}}
 {
 rw [if_neg c12] at H
 exact absurd H (by simp)}}
 {
 rw [if_neg c11] at H
 exact absurd H (by simp)}}
 {
 rw [if_neg c9] at H
 have c9b0 : decide (0 < x7_1) = false := decide_eq_false c9
 clear c9
 have H' := A_ H
 clear H
 have p292 : 0 ≤ (x7_1 : Int) := o1_
 have q292 : x7_1 < (l0.length : Int) := o1_
 obtain ⟨ad292, e292, hx292_0, hx292_1⟩ := at_T63 HR0.out x7_1 p292 q292
 cases e292
 replace hx292_0 := (HB.out.cell (World.block_lt_of_cell? w _ hx292_0)).trans hx292_0
 replace hx292_1 := (HB.out.cell (World.block_lt_of_cell? w _ hx292_1)).trans hx292_1
 replace p292 := eq_true p292
 replace q292 := eq_true q292
 go_wp2_with (first | ((with_reducible refine gate_dst (N := 4) rfl ?_); refine bx_ 4 #[.int .i64 0, .int .i64 0] 63 ?_; intro gb293 hg w18 hbox hb; have GW293 := b6_ hg HB; have GE293 := b6_ hg HB; replace HB := A_ (below_step (y1_ HB.out) hb); have BK293 := A_ (hbox); clear hb hbox hg; have hcz19_0 := c1_ BK293 0 (.int .i64 0); have hcz19_1 := c1_ BK293 1 (.int .i64 0); have hfz19_0 := f1_ BK293 0; have hfz19_1 := f1_ BK293 1) | (go_at_call 54; (with_reducible refine (impl_isMember.calls ((rd_T63 l0 x7_1).f0) true _ A5.out).mono ?_); rintro e w' ⟨rfl, ⟨nd, rfl⟩⟩; (try exact d1_)) | (go_at_call 45; (with_reducible refine (impl_isTick.calls ((rd_T63 l0 x7_1).f1) true _ A7.out).mono ?_); rintro e w' ⟨rfl, ⟨nd, rfl⟩⟩; (try exact d1_)))
 repeat (go_quiet (first | ((with_reducible refine gate_dst (N := 4) rfl ?_); refine bx_ 4 #[.int .i64 0, .int .i64 0] 63 ?_; intro gb293 hg w18 hbox hb; have GW293 := b6_ hg HB; have GE293 := b6_ hg HB; replace HB := A_ (below_step (y1_ HB.out) hb); have BK293 := A_ (hbox); clear hb hbox hg; have hcz19_0 := c1_ BK293 0 (.int .i64 0); have hcz19_1 := c1_ BK293 1 (.int .i64 0); have hfz19_0 := f1_ BK293 0; have hfz19_1 := f1_ BK293 1) | (go_at_call 54; (with_reducible refine (impl_isMember.calls ((rd_T63 l0 x7_1).f0) true _ A5.out).mono ?_); rintro e w' ⟨rfl, ⟨nd, rfl⟩⟩; (try exact d1_)) | (go_at_call 45; (with_reducible refine (impl_isTick.calls ((rd_T63 l0 x7_1).f1) true _ A7.out).mono ?_); rintro e w' ⟨rfl, ⟨nd, rfl⟩⟩; (try exact d1_))); try go_wp2_with (first | ((with_reducible refine gate_dst (N := 4) rfl ?_); refine bx_ 4 #[.int .i64 0, .int .i64 0] 63 ?_; intro gb293 hg w18 hbox hb; have GW293 := b6_ hg HB; have GE293 := b6_ hg HB; replace HB := A_ (below_step (y1_ HB.out) hb); have BK293 := A_ (hbox); clear hb hbox hg; have hcz19_0 := c1_ BK293 0 (.int .i64 0); have hcz19_1 := c1_ BK293 1 (.int .i64 0); have hfz19_0 := f1_ BK293 0; have hfz19_1 := f1_ BK293 1) | (go_at_call 54; (with_reducible refine (impl_isMember.calls ((rd_T63 l0 x7_1).f0) true _ A5.out).mono ?_); rintro e w' ⟨rfl, ⟨nd, rfl⟩⟩; (try exact d1_)) | (go_at_call 45; (with_reducible refine (impl_isTick.calls ((rd_T63 l0 x7_1).f1) true _ A7.out).mono ?_); rintro e w' ⟨rfl, ⟨nd, rfl⟩⟩; (try exact d1_))))
 go_roundg k1
 case measure => have := HK1.out; omega
 case rel => exact ⟨(wrap64 (x7_1 + 1)), s1_, H', ⟨by have := HK1.out; omega⟩, ⟨by repeat (first | (with_reducible first | exact HB.out | apply below_alloc | apply pw_below_drewN | apply below_drew1 | refine below_set ?_ GE293.out) | exact HB.out)⟩⟩}}
 {
 replace c8 := Bool.eq_false_iff.mpr c8
 subst c8
 have H1 : (some false) = some r := by rw [if_neg (show ¬ (false = true) by decide)] at H; exact H
 clear H
 have H := H1
 clear H1
 obtain rfl := Option.some.inj H
 have p292 : 0 ≤ (x7_1 : Int) := o1_
 have q292 : x7_1 < (l0.length : Int) := o1_
 obtain ⟨ad292, e292, hx292_0, hx292_1⟩ := at_T63 HR0.out x7_1 p292 q292
 cases e292
 replace hx292_0 := (HB.out.cell (World.block_lt_of_cell? w _ hx292_0)).trans hx292_0
 replace hx292_1 := (HB.out.cell (World.block_lt_of_cell? w _ hx292_1)).trans hx292_1
 replace p292 := eq_true p292
 replace q292 := eq_true q292
 go_wp2_with (first | ((with_reducible refine gate_dst (N := 4) rfl ?_); refine bx_ 4 #[.int .i64 0, .int .i64 0] 63 ?_; intro gb293 hg w20 hbox hb; have GW293 := b6_ hg HB; have GE293 := b6_ hg HB; replace HB := A_ (below_step (y1_ HB.out) hb); have BK293 := A_ (hbox); clear hb hbox hg; have hcz21_0 := c1_ BK293 0 (.int .i64 0); have hcz21_1 := c1_ BK293 1 (.int .i64 0); have hfz21_0 := f1_ BK293 0; have hfz21_1 := f1_ BK293 1) | (go_at_call 54; (with_reducible refine (impl_isMember.calls ((rd_T63 l0 x7_1).f0) true _ A5.out).mono ?_); rintro e w' ⟨rfl, ⟨nd, rfl⟩⟩; (try exact d1_)) | (go_at_call 45; (with_reducible refine (impl_isTick.calls ((rd_T63 l0 x7_1).f1) false _ A7.out).mono ?_); rintro e w' ⟨rfl, ⟨nd, rfl⟩⟩; (try exact d1_)))
 repeat (go_quiet (first | ((with_reducible refine gate_dst (N := 4) rfl ?_); refine bx_ 4 #[.int .i64 0, .int .i64 0] 63 ?_; intro gb293 hg w20 hbox hb; have GW293 := b6_ hg HB; have GE293 := b6_ hg HB; replace HB := A_ (below_step (y1_ HB.out) hb); have BK293 := A_ (hbox); clear hb hbox hg; have hcz21_0 := c1_ BK293 0 (.int .i64 0); have hcz21_1 := c1_ BK293 1 (.int .i64 0); have hfz21_0 := f1_ BK293 0; have hfz21_1 := f1_ BK293 1) | (go_at_call 54; (with_reducible refine (impl_isMember.calls ((rd_T63 l0 x7_1).f0) true _ A5.out).mono ?_); rintro e w' ⟨rfl, ⟨nd, rfl⟩⟩; (try exact d1_)) | (go_at_call 45; (with_reducible refine (impl_isTick.calls ((rd_T63 l0 x7_1).f1) false _ A7.out).mono ?_); rintro e w' ⟨rfl, ⟨nd, rfl⟩⟩; (try exact d1_))); try go_wp2_with (first | ((with_reducible refine gate_dst (N := 4) rfl ?_); refine bx_ 4 #[.int .i64 0, .int .i64 0] 63 ?_; intro gb293 hg w20 hbox hb; have GW293 := b6_ hg HB; have GE293 := b6_ hg HB; replace HB := A_ (below_step (y1_ HB.out) hb); have BK293 := A_ (hbox); clear hb hbox hg; have hcz21_0 := c1_ BK293 0 (.int .i64 0); have hcz21_1 := c1_ BK293 1 (.int .i64 0); have hfz21_0 := f1_ BK293 0; have hfz21_1 := f1_ BK293 1) | (go_at_call 54; (with_reducible refine (impl_isMember.calls ((rd_T63 l0 x7_1).f0) true _ A5.out).mono ?_); rintro e w' ⟨rfl, ⟨nd, rfl⟩⟩; (try exact d1_)) | (go_at_call 45; (with_reducible refine (impl_isTick.calls ((rd_T63 l0 x7_1).f1) false _ A7.out).mono ?_); rintro e w' ⟨rfl, ⟨nd, rfl⟩⟩; (try exact d1_))))
 go_ret
 exact ⟨e1_, by repeat (first | (with_reducible first | exact HB.out | apply below_alloc | apply pw_below_drewN | apply below_drew1 | refine below_set ?_ GE293.out) | exact HB.out)⟩}}
 {
 replace c6 := Bool.eq_false_iff.mpr c6
 subst c6
 have H1 : (some false) = some r := by rw [if_neg (show ¬ (false = true) by decide)] at H; exact H
 clear H
 have H := H1
 clear H1
 obtain rfl := Option.some.inj H
 have p292 : 0 ≤ (x7_1 : Int) := o1_
 have q292 : x7_1 < (l0.length : Int) := o1_
 obtain ⟨ad292, e292, hx292_0, hx292_1⟩ := at_T63 HR0.out x7_1 p292 q292
 cases e292
 replace hx292_0 := (HB.out.cell (World.block_lt_of_cell? w _ hx292_0)).trans hx292_0
 replace hx292_1 := (HB.out.cell (World.block_lt_of_cell? w _ hx292_1)).trans hx292_1
 replace p292 := eq_true p292
 replace q292 := eq_true q292
 go_wp2_with (first | ((with_reducible refine gate_dst (N := 4) rfl ?_); refine bx_ 4 #[.int .i64 0, .int .i64 0] 63 ?_; intro gb293 hg w22 hbox hb; have GW293 := b6_ hg HB; have GE293 := b6_ hg HB; replace HB := A_ (below_step (y1_ HB.out) hb); have BK293 := A_ (hbox); clear hb hbox hg; have hcz23_0 := c1_ BK293 0 (.int .i64 0); have hcz23_1 := c1_ BK293 1 (.int .i64 0); have hfz23_0 := f1_ BK293 0; have hfz23_1 := f1_ BK293 1) | (go_at_call 54; (with_reducible refine (impl_isMember.calls ((rd_T63 l0 x7_1).f0) false _ A5.out).mono ?_); rintro e w' ⟨rfl, ⟨nd, rfl⟩⟩; (try exact d1_)))
 repeat (go_quiet (first | ((with_reducible refine gate_dst (N := 4) rfl ?_); refine bx_ 4 #[.int .i64 0, .int .i64 0] 63 ?_; intro gb293 hg w22 hbox hb; have GW293 := b6_ hg HB; have GE293 := b6_ hg HB; replace HB := A_ (below_step (y1_ HB.out) hb); have BK293 := A_ (hbox); clear hb hbox hg; have hcz23_0 := c1_ BK293 0 (.int .i64 0); have hcz23_1 := c1_ BK293 1 (.int .i64 0); have hfz23_0 := f1_ BK293 0; have hfz23_1 := f1_ BK293 1) | (go_at_call 54; (with_reducible refine (impl_isMember.calls ((rd_T63 l0 x7_1).f0) false _ A5.out).mono ?_); rintro e w' ⟨rfl, ⟨nd, rfl⟩⟩; (try exact d1_))); try go_wp2_with (first | ((with_reducible refine gate_dst (N := 4) rfl ?_); refine bx_ 4 #[.int .i64 0, .int .i64 0] 63 ?_; intro gb293 hg w22 hbox hb; have GW293 := b6_ hg HB; have GE293 := b6_ hg HB; replace HB := A_ (below_step (y1_ HB.out) hb); have BK293 := A_ (hbox); clear hb hbox hg; have hcz23_0 := c1_ BK293 0 (.int .i64 0); have hcz23_1 := c1_ BK293 1 (.int .i64 0); have hfz23_0 := f1_ BK293 0; have hfz23_1 := f1_ BK293 1) | (go_at_call 54; (with_reducible refine (impl_isMember.calls ((rd_T63 l0 x7_1).f0) false _ A5.out).mono ?_); rintro e w' ⟨rfl, ⟨nd, rfl⟩⟩; (try exact d1_))))
 go_ret
 exact ⟨e1_, by repeat (first | (with_reducible first | exact HB.out | apply below_alloc | apply pw_below_drewN | apply below_drew1 | refine below_set ?_ GE293.out) | exact HB.out)⟩}}
 {
 rw [if_neg c4] at H
 exact absurd H (by simp)}}
 {
 rw [if_neg c3] at H
 exact absurd H (by simp)}}
 {
 rw [if_neg c2] at H
 have c2b0 : decide (x7_1 < (l0.length : Int)) = false := decide_eq_false c2
 clear c2
 obtain rfl := Option.some.inj H
 go_wp2
 repeat (go_quiet (fail); try go_wp2)
 go_ret
 exact ⟨e1_, y1_ HB.out⟩}}}

/-! ### impl_ValidPresence: function 19 -/
abbrev impl_ValidPresence.T : Bool := true
abbrev impl_ValidPresence.F : Bool := false
def impl_ValidPresence.l0 : Nat → List (S73) → Int → Int → List (S63) → List (S63) → List (S73) → Option (Bool)
  | 0, _, _, _, _, _, _ => none
  | k + 1, x6, x7, x8, x298000, x298001, x298002 => if x8 < x7 then (if 0 ≤ x8 then (if x8 < (x6.length : Int) then ((impl_isMember.f ((rd_T73 x6 x8).f0)).bind fun t302 => (if t302 = true then ((impl_in.f ((rd_T73 x6 x8).f1) 0 1000000000).bind fun t303 => (if t303 = true then (if x8 > 0 then (if 0 ≤ (wrap64 (x8 - 1)) then (if (wrap64 (x8 - 1)) < (x298002.length : Int) then (if ((rd_T73 x298002 (wrap64 (x8 - 1))).f0) ≥ ((rd_T73 x6 x8).f0) then (some false) else (impl_ValidPresence.l0 k x6 x7 (wrap64 (x8 + 1)) x298000 x298001 x298002)) else (none)) else (none)) else (impl_ValidPresence.l0 k x6 x7 (wrap64 (x8 + 1)) x298000 x298001 x298002)) else (some false))) else (some false))) else (none)) else (none)) else ((impl_leasesOk.f k x298000).bind fun t298 => (if t298 = true then ((impl_leasesOk.f k x298001).bind fun t299 => (if t299 = true then (some (decide ((x298002.length : Int) ≤ 30))) else (some false))) else (some false)))
def impl_ValidPresence.f (k : Nat) (l0_0 : List (S63)) (l0_1 : List (S63)) (l0_2 : List (S73)) : Option (Bool) := impl_ValidPresence.l0 k l0_2 (l0_2.length : Int) 0 l0_0 l0_1 l0_2
theorem impl_ValidPresence.mono_l : ∀ k, (∀ y0 y1 y2 y3 y4 y5, LeO (impl_ValidPresence.l0 k y0 y1 y2 y3 y4 y5) (impl_ValidPresence.l0 (k + 1) y0 y1 y2 y3 y4 y5))
  | 0 => fun _ _ _ _ _ _ r h => by simp [impl_ValidPresence.l0] at h
  | k + 1 => by
    have ih0 := impl_ValidPresence.mono_l k
    · intro y0 y1 y2 y3 y4 y5
      unfold impl_ValidPresence.l0
      repeat' first
      | (with_reducible exact ih0 _ _ _ _ _ _)
      | (with_reducible exact impl_leasesOk.mono _ _)
      | (with_reducible exact LeO.refl _)
      | (with_reducible exact LeO.none _)
      | (with_reducible refine LeO.ite ?_ ?_)
      | (with_reducible refine LeO.bind ?_ (fun _ => ?_))
      | exact ih0 _ _ _ _ _ _
      | exact impl_leasesOk.mono _ _
      | exact LeO.none _
      | refine LeO.ite ?_ ?_
      | refine LeO.bind ?_ (fun _ => ?_)
theorem impl_ValidPresence.mono : ∀ a0 a1 a2 k, LeO (impl_ValidPresence.f k a0 a1 a2) (impl_ValidPresence.f (k + 1) a0 a1 a2) := by
  intro a0 a1 a2 k
  have ih0 := impl_ValidPresence.mono_l k
  unfold impl_ValidPresence.f
  repeat' first
      | (with_reducible exact ih0 _ _ _ _ _ _)
      | (with_reducible exact impl_leasesOk.mono _ _)
      | (with_reducible exact LeO.refl _)
      | (with_reducible exact LeO.none _)
      | (with_reducible refine LeO.ite ?_ ?_)
      | (with_reducible refine LeO.bind ?_ (fun _ => ?_))
      | exact ih0 _ _ _ _ _ _
      | exact impl_leasesOk.mono _ _
      | exact LeO.none _
      | refine LeO.ite ?_ ?_
      | refine LeO.bind ?_ (fun _ => ?_)
set_option maxHeartbeats 8000000 in
set_option maxRecDepth 100000 in
theorem impl_ValidPresence.calls (k : Nat) (A0_0 : Option Addr) (c0_0 : Nat) (l0_0 : List (S63)) (A0_1 : Option Addr) (c0_1 : Nat) (l0_1 : List (S63)) (A0_2 : Option Addr) (c0_2 : Nat) (l0_2 : List (S73)) (r : Bool) (w : World) (hr0_0 : Kd.C k63 w A0_0 l0_0.length l0_0) (hc0_0 : l0_0.length ≤ c0_0) (hr0_1 : Kd.C k63 w A0_1 l0_1.length l0_1) (hc0_1 : l0_1.length ≤ c0_1) (hr0_2 : Kd.C k73 w A0_2 l0_2.length l0_2) (hc0_2 : l0_2.length ≤ c0_2) (h : impl_ValidPresence.f k l0_0 l0_1 l0_2 = some r) :
    Calls Try.prog 19 #[.agg #[.slice A0_0 l0_0.length c0_0, .slice A0_1 l0_1.length c0_1, .slice A0_2 l0_2.length c0_2]] w fun e w' => e = .returned (.bool r) ∧ Below w.heap.size w w' := by
 have hu27 := Try.underlying27
 have hu73 := Try.underlying73
 have HR0_0 := A_ hr0_0
 have HC0_0 := A_ hc0_0
 clear hr0_0 hc0_0
 have HR0_1 := A_ hr0_1
 have HC0_1 := A_ hc0_1
 clear hr0_1 hc0_1
 have HR0_2 := A_ hr0_2
 have HC0_2 := A_ hc0_2
 clear hr0_2 hc0_2
 have HB := A_ (Below.refl w.heap.size w)
 have H : (impl_ValidPresence.l0 k l0_2 (l0_2.length : Int) 0 l0_0 l0_1 l0_2) = some r := h
 clear h
 have H' := A_ H
 clear H
 go_enter Try.func19, Try.ntmps19
 go_wp2_with (first | ((with_reducible refine gate_dst (N := 1) rfl ?_); (try (refine gate_guard (by rfl) ?_; dsimp only)); refine bx_ 1 #[.slice A0_0 l0_0.length c0_0, .slice A0_1 l0_1.length c0_1, .slice A0_2 l0_2.length c0_2] 27 ?_; intro gb297 hg w2 hbox hb; have GW297 := b6_ hg HB; have GE297 := b6_ hg HB; replace HB := A_ (below_step (y1_ HB.out) hb); have BK297 := A_ (hbox); clear hb hbox hg; have hcz3_0 := c1_ BK297 0 (.slice A0_0 l0_0.length c0_0); have hcz3_1 := c1_ BK297 1 (.slice A0_1 l0_1.length c0_1); have hcz3_2 := c1_ BK297 2 (.slice A0_2 l0_2.length c0_2); have hfz3_0 := f1_ BK297 0; have hfz3_1 := f1_ BK297 1; have hfz3_2 := f1_ BK297 2))
 repeat (go_quiet (first | ((with_reducible refine gate_dst (N := 1) rfl ?_); (try (refine gate_guard (by rfl) ?_; dsimp only)); refine bx_ 1 #[.slice A0_0 l0_0.length c0_0, .slice A0_1 l0_1.length c0_1, .slice A0_2 l0_2.length c0_2] 27 ?_; intro gb297 hg w2 hbox hb; have GW297 := b6_ hg HB; have GE297 := b6_ hg HB; replace HB := A_ (below_step (y1_ HB.out) hb); have BK297 := A_ (hbox); clear hb hbox hg; have hcz3_0 := c1_ BK297 0 (.slice A0_0 l0_0.length c0_0); have hcz3_1 := c1_ BK297 1 (.slice A0_1 l0_1.length c0_1); have hcz3_2 := c1_ BK297 2 (.slice A0_2 l0_2.length c0_2); have hfz3_0 := f1_ BK297 0; have hfz3_1 := f1_ BK297 1; have hfz3_2 := f1_ BK297 2)); try go_wp2_with (first | ((with_reducible refine gate_dst (N := 1) rfl ?_); (try (refine gate_guard (by rfl) ?_; dsimp only)); refine bx_ 1 #[.slice A0_0 l0_0.length c0_0, .slice A0_1 l0_1.length c0_1, .slice A0_2 l0_2.length c0_2] 27 ?_; intro gb297 hg w2 hbox hb; have GW297 := b6_ hg HB; have GE297 := b6_ hg HB; replace HB := A_ (below_step (y1_ HB.out) hb); have BK297 := A_ (hbox); clear hb hbox hg; have hcz3_0 := c1_ BK297 0 (.slice A0_0 l0_0.length c0_0); have hcz3_1 := c1_ BK297 1 (.slice A0_1 l0_1.length c0_1); have hcz3_2 := c1_ BK297 2 (.slice A0_2 l0_2.length c0_2); have hfz3_0 := f1_ BK297 0; have hfz3_1 := f1_ BK297 1; have hfz3_2 := f1_ BK297 2)))
 go_loopg [8] k (fun kq v8 w' => ∃ (x8_1 : Int), v8 = .int .i64 x8_1 ∧ Aside0 (impl_ValidPresence.l0 kq l0_2 (l0_2.length : Int) x8_1 l0_0 l0_1 l0_2 = some r) ∧ Aside0 (kq ≤ k) ∧ Aside0 (w'.heap[gb297]? = some (.cells #[(.slice A0_0 l0_0.length c0_0), (.slice A0_1 l0_1.length c0_1), (.slice A0_2 l0_2.length c0_2)] 27 (0, 0))) ∧ Aside0 (Below w.heap.size w w'))
 case atStart => exact ⟨(0), s1_, H', ⟨Nat.le_refl _⟩, ⟨b1_ BK297.out⟩, ⟨y1_ HB.out⟩⟩
 case round =>
  skip
  {
 clear H'
 try clear c1
 try clear p2
 try clear hcz3_0
 try clear hcz3_1
 try clear hcz3_2
 try clear hfz3_0
 try clear hfz3_1
 try clear hfz3_2
 obtain ⟨x8_1, rfl, HA, HK1, BK297, HB⟩ := hrel
 cases gk with
 | zero => exact absurd HA.out (by simp [impl_ValidPresence.l0])
 | succ k1 =>
  skip
  {
 have H := HA.out
 clear HA
 simp only [impl_ValidPresence.l0] at H
 by_cases c4 : x8_1 < (l0_2.length : Int)
 {
 rw [if_pos c4] at H
 have c4b0 : decide (x8_1 < (l0_2.length : Int)) = true := decide_eq_true c4
 clear c4
 by_cases c5 : 0 ≤ x8_1
 {
 rw [if_pos c5] at H
 have c5b0 : decide (0 ≤ x8_1) = true := decide_eq_true c5
 clear c5
 by_cases c6 : x8_1 < (l0_2.length : Int)
 {
 rw [if_pos c6] at H
 have c6b0 : decide (x8_1 < (l0_2.length : Int)) = true := decide_eq_true c6
 clear c6
 replace H := Option.bind_eq_some_iff.mp H
 obtain ⟨t302, A70, H⟩ := H
 replace H : (if t302 = true then ((impl_in.f ((rd_T73 l0_2 x8_1).f1) 0 1000000000).bind fun t303 => (if t303 = true then (if x8_1 > 0 then (if 0 ≤ (wrap64 (x8_1 - 1)) then (if (wrap64 (x8_1 - 1)) < (l0_2.length : Int) then (if ((rd_T73 l0_2 (wrap64 (x8_1 - 1))).f0) ≥ ((rd_T73 l0_2 x8_1).f0) then (some false) else (impl_ValidPresence.l0 k1 l0_2 (l0_2.length : Int) (wrap64 (x8_1 + 1)) l0_0 l0_1 l0_2)) else (none)) else (none)) else (impl_ValidPresence.l0 k1 l0_2 (l0_2.length : Int) (wrap64 (x8_1 + 1)) l0_0 l0_1 l0_2)) else (some false))) else (some false)) = some r := H
 have A7 := A_ A70
 clear A70
 by_cases c8 : t302 = true
 {
 subst c8
 have H1 : ((impl_in.f ((rd_T73 l0_2 x8_1).f1) 0 1000000000).bind fun t303 => (if t303 = true then (if x8_1 > 0 then (if 0 ≤ (wrap64 (x8_1 - 1)) then (if (wrap64 (x8_1 - 1)) < (l0_2.length : Int) then (if ((rd_T73 l0_2 (wrap64 (x8_1 - 1))).f0) ≥ ((rd_T73 l0_2 x8_1).f0) then (some false) else (impl_ValidPresence.l0 k1 l0_2 (l0_2.length : Int) (wrap64 (x8_1 + 1)) l0_0 l0_1 l0_2)) else (none)) else (none)) else (impl_ValidPresence.l0 k1 l0_2 (l0_2.length : Int) (wrap64 (x8_1 + 1)) l0_0 l0_1 l0_2)) else (some false))) = some r := by rw [if_pos rfl] at H; exact H
 clear H
 have H := H1
 clear H1
 replace H := Option.bind_eq_some_iff.mp H
 obtain ⟨t303, A90, H⟩ := H
 replace H : (if t303 = true then (if x8_1 > 0 then (if 0 ≤ (wrap64 (x8_1 - 1)) then (if (wrap64 (x8_1 - 1)) < (l0_2.length : Int) then (if ((rd_T73 l0_2 (wrap64 (x8_1 - 1))).f0) ≥ ((rd_T73 l0_2 x8_1).f0) then (some false) else (impl_ValidPresence.l0 k1 l0_2 (l0_2.length : Int) (wrap64 (x8_1 + 1)) l0_0 l0_1 l0_2)) else (none)) else (none)) else (impl_ValidPresence.l0 k1 l0_2 (l0_2.length : Int) (wrap64 (x8_1 + 1)) l0_0 l0_1 l0_2)) else (some false)) = some r := H
 have A9 := A_ A90
 clear A90
 by_cases c10 : t303 = true
 {
 subst c10
 have H1 : (if x8_1 > 0 then (if 0 ≤ (wrap64 (x8_1 - 1)) then (if (wrap64 (x8_1 - 1)) < (l0_2.length : Int) then (if ((rd_T73 l0_2 (wrap64 (x8_1 - 1))).f0) ≥ ((rd_T73 l0_2 x8_1).f0) then (some false) else (impl_ValidPresence.l0 k1 l0_2 (l0_2.length : Int) (wrap64 (x8_1 + 1)) l0_0 l0_1 l0_2)) else (none)) else (none)) else (impl_ValidPresence.l0 k1 l0_2 (l0_2.length : Int) (wrap64 (x8_1 + 1)) l0_0 l0_1 l0_2)) = some r := by rw [if_pos rfl] at H; exact H
 clear H
 have H := H1
 clear H1
 by_cases c11 : x8_1 > 0
 {
 rw [if_pos c11] at H
 have c11b0 : decide (0 < x8_1) = true := decide_eq_true c11
 clear c11
 obtain ⟨ji12, hji12⟩ : ∃ j_ : Int, (wrap64 (x8_1 - 1)) = j_ := ⟨_, rfl⟩
 replace H : (if 0 ≤ (ji12) then (if (ji12) < (l0_2.length : Int) then (if ((rd_T73 l0_2 (ji12)).f0) ≥ ((rd_T73 l0_2 x8_1).f0) then (some false) else (impl_ValidPresence.l0 k1 l0_2 (l0_2.length : Int) (wrap64 (x8_1 + 1)) l0_0 l0_1 l0_2)) else (none)) else (none)) = some r := by first | (rw [hji12] at H; exact H) | (simp only [hji12] at H ⊢; exact H)
 (try rw [hji12] at A7)
 (try rw [hji12] at A9)
 have hji12w : (IntKind.i64.wrap (x8_1 - 1)) = ji12 := (i64_w _).trans hji12
 by_cases c13 : 0 ≤ (ji12)
 {
 rw [if_pos c13] at H
 have c13b0 : decide (0 ≤ (ji12)) = true := decide_eq_true c13
 clear c13
 by_cases c14 : (ji12) < (l0_2.length : Int)
 {
 rw [if_pos c14] at H
 have c14b0 : decide ((ji12) < (l0_2.length : Int)) = true := decide_eq_true c14
 clear c14
 by_cases c15 : ((rd_T73 l0_2 (ji12)).f0) ≥ ((rd_T73 l0_2 x8_1).f0)
 {
 rw [if_pos c15] at H
 have c15b0 : decide (((rd_T73 l0_2 x8_1).f0) ≤ ((rd_T73 l0_2 (ji12)).f0)) = true := decide_eq_true c15
 clear c15
 obtain rfl := Option.some.inj H
 have p300 : 0 ≤ (x8_1 : Int) := o1_
 have q300 : x8_1 < (l0_2.length : Int) := o1_
 obtain ⟨ad300, e300, hx300_0, hx300_1⟩ := at_T73 HR0_2.out x8_1 p300 q300
 cases e300
 replace hx300_0 := (HB.out.cell (World.block_lt_of_cell? w _ hx300_0)).trans hx300_0
 replace hx300_1 := (HB.out.cell (World.block_lt_of_cell? w _ hx300_1)).trans hx300_1
 replace p300 := eq_true p300
 replace q300 := eq_true q300
 go_wp2_with (first | ((with_reducible refine gate_dst (N := 4) rfl ?_); (try (refine gate_guard (by rfl) ?_; dsimp only)); refine bx_ 4 #[.int .i64 0, .int .i64 0] 73 ?_; intro gb301 hg w16 hbox hb; have GW301 := b6_ hg HB; have GE301 := b6_ hg HB; have NB297_301 := b4_ hg BK297; have NB301_297 := b5_ hg BK297; replace BK297 := b3_ BK297 hb; replace HB := A_ (below_step (y1_ HB.out) hb); have BK301 := A_ (hbox); clear hb hbox hg; have hnb17 := NB301_297.out; have hnc17 := NB297_301.out; have hcz18_0 := c1_ BK301 0 (.int .i64 0); have hcz18_1 := c1_ BK301 1 (.int .i64 0); have hfz18_0 := f1_ BK301 0; have hfz18_1 := f1_ BK301 1; have hcz19_0 := c1_ BK297 0 (.slice A0_0 l0_0.length c0_0); have hcz19_1 := c1_ BK297 1 (.slice A0_1 l0_1.length c0_1); have hcz19_2 := c1_ BK297 2 (.slice (some ad300) l0_2.length c0_2); have hfz19_0 := f1_ BK297 0; have hfz19_1 := f1_ BK297 1; have hfz19_2 := f1_ BK297 2; have p304 : 0 ≤ ((ji12) : Int) := o1_; have q304 : (ji12) < (l0_2.length : Int) := o1_; obtain ⟨ad304, e304, hx304_0, hx304_1⟩ := at_T73 HR0_2.out (ji12) p304 q304; obtain rfl : ad300 = ad304 := (by injection e304); have hn304_0 : ad300.block ≠ gb301 := Nat.ne_of_lt (Nat.lt_of_lt_of_le (by have := World.block_lt_of_cell? _ _ hx304_0; first | rwa [add_block] at this | exact this) GW301.out); have hn304_1 : ad300.block ≠ gb301 := Nat.ne_of_lt (Nat.lt_of_lt_of_le (by have := World.block_lt_of_cell? _ _ hx304_0; first | rwa [add_block] at this | exact this) GW301.out); replace hx304_0 := (HB.out.cell (World.block_lt_of_cell? w _ hx304_0)).trans hx304_0; replace hx304_1 := (HB.out.cell (World.block_lt_of_cell? w _ hx304_1)).trans hx304_1; replace hx304_0 := (cell_far (p := ⟨gb301, 0, none⟩) (by first | (rw [add_block]; exact hn304_0) | (show (Addr.add _ _).block ≠ _; rw [add_block]; exact hn304_0) | exact hn304_0) (.int .i64 ((rd_T73 l0_2 x8_1).f0))).trans hx304_0; replace hx304_1 := (cell_far (p := ⟨gb301, 0, none⟩) (by first | (rw [add_block]; exact hn304_0) | (show (Addr.add _ _).block ≠ _; rw [add_block]; exact hn304_0) | exact hn304_0) (.int .i64 ((rd_T73 l0_2 x8_1).f0))).trans hx304_1; replace hx304_0 := (cell_far (p := ⟨gb301, 1, none⟩) (by first | (rw [add_block]; exact hn304_1) | (show (Addr.add _ _).block ≠ _; rw [add_block]; exact hn304_1) | exact hn304_1) (.int .i64 ((rd_T73 l0_2 x8_1).f1))).trans hx304_0; replace hx304_1 := (cell_far (p := ⟨gb301, 1, none⟩) (by first | (rw [add_block]; exact hn304_1) | (show (Addr.add _ _).block ≠ _; rw [add_block]; exact hn304_1) | exact hn304_1) (.int .i64 ((rd_T73 l0_2 x8_1).f1))).trans hx304_1; (try have hy304_0 := fun (n_ : Nat) => (show ((((w16.drewN n_).setCell ⟨gb301, 0, none⟩ (.int .i64 ((rd_T73 l0_2 x8_1).f0))).setCell ⟨gb301, 1, none⟩ (.int .i64 ((rd_T73 l0_2 x8_1).f1)))).cell? _ = some _ from hx304_0)); (try have hy304_1 := fun (n_ : Nat) => (show ((((w16.drewN n_).setCell ⟨gb301, 0, none⟩ (.int .i64 ((rd_T73 l0_2 x8_1).f0))).setCell ⟨gb301, 1, none⟩ (.int .i64 ((rd_T73 l0_2 x8_1).f1)))).cell? _ = some _ from hx304_1)); clear hn304_0; clear hn304_1; replace p304 := eq_true p304; replace q304 := eq_true q304) | (go_at_call 54; (with_reducible refine (impl_isMember.calls ((rd_T73 l0_2 x8_1).f0) true _ A7.out).mono ?_); rintro e w' ⟨rfl, ⟨nd, rfl⟩⟩; (try exact d1_)) | (go_at_call 46; (with_reducible refine (impl_in.calls ((rd_T73 l0_2 x8_1).f1) 0 1000000000 true _ A9.out).mono ?_); rintro e w' ⟨rfl, ⟨nd, rfl⟩⟩; (try exact d1_)))
 repeat (go_quiet (first | ((with_reducible refine gate_dst (N := 4) rfl ?_); (try (refine gate_guard (by rfl) ?_; dsimp only)); refine bx_ 4 #[.int .i64 0, .int .i64 0] 73 ?_; intro gb301 hg w16 hbox hb; have GW301 := b6_ hg HB; have GE301 := b6_ hg HB; have NB297_301 := b4_ hg BK297; have NB301_297 := b5_ hg BK297; replace BK297 := b3_ BK297 hb; replace HB := A_ (below_step (y1_ HB.out) hb); have BK301 := A_ (hbox); clear hb hbox hg; have hnb17 := NB301_297.out; have hnc17 := NB297_301.out; have hcz18_0 := c1_ BK301 0 (.int .i64 0); have hcz18_1 := c1_ BK301 1 (.int .i64 0); have hfz18_0 := f1_ BK301 0; have hfz18_1 := f1_ BK301 1; have hcz19_0 := c1_ BK297 0 (.slice A0_0 l0_0.length c0_0); have hcz19_1 := c1_ BK297 1 (.slice A0_1 l0_1.length c0_1); have hcz19_2 := c1_ BK297 2 (.slice (some ad300) l0_2.length c0_2); have hfz19_0 := f1_ BK297 0; have hfz19_1 := f1_ BK297 1; have hfz19_2 := f1_ BK297 2; have p304 : 0 ≤ ((ji12) : Int) := o1_; have q304 : (ji12) < (l0_2.length : Int) := o1_; obtain ⟨ad304, e304, hx304_0, hx304_1⟩ := at_T73 HR0_2.out (ji12) p304 q304; obtain rfl : ad300 = ad304 := (by injection e304); have hn304_0 : ad300.block ≠ gb301 := Nat.ne_of_lt (Nat.lt_of_lt_of_le (by have := World.block_lt_of_cell? _ _ hx304_0; first | rwa [add_block] at this | exact this) GW301.out); have hn304_1 : ad300.block ≠ gb301 := Nat.ne_of_lt (Nat.lt_of_lt_of_le (by have := World.block_lt_of_cell? _ _ hx304_0; first | rwa [add_block] at this | exact this) GW301.out); replace hx304_0 := (HB.out.cell (World.block_lt_of_cell? w _ hx304_0)).trans hx304_0; replace hx304_1 := (HB.out.cell (World.block_lt_of_cell? w _ hx304_1)).trans hx304_1; replace hx304_0 := (cell_far (p := ⟨gb301, 0, none⟩) (by first | (rw [add_block]; exact hn304_0) | (show (Addr.add _ _).block ≠ _; rw [add_block]; exact hn304_0) | exact hn304_0) (.int .i64 ((rd_T73 l0_2 x8_1).f0))).trans hx304_0; replace hx304_1 := (cell_far (p := ⟨gb301, 0, none⟩) (by first | (rw [add_block]; exact hn304_0) | (show (Addr.add _ _).block ≠ _; rw [add_block]; exact hn304_0) | exact hn304_0) (.int .i64 ((rd_T73 l0_2 x8_1).f0))).trans hx304_1; replace hx304_0 := (cell_far (p := ⟨gb301, 1, none⟩) (by first | (rw [add_block]; exact hn304_1) | (show (Addr.add _ _).block ≠ _; rw [add_block]; exact hn304_1) | exact hn304_1) (.int .i64 ((rd_T73 l0_2 x8_1).f1))).trans hx304_0; replace hx304_1 := (cell_far (p := ⟨gb301, 1, none⟩) (by first | (rw [add_block]; exact hn304_1) | (show (Addr.add _ _).block ≠ _; rw [add_block]; exact hn304_1) | exact hn304_1) (.int .i64 ((rd_T73 l0_2 x8_1).f1))).trans hx304_1; (try have hy304_0 := fun (n_ : Nat) => (show ((((w16.drewN n_).setCell ⟨gb301, 0, none⟩ (.int .i64 ((rd_T73 l0_2 x8_1).f0))).setCell ⟨gb301, 1, none⟩ (.int .i64 ((rd_T73 l0_2 x8_1).f1)))).cell? _ = some _ from hx304_0)); (try have hy304_1 := fun (n_ : Nat) => (show ((((w16.drewN n_).setCell ⟨gb301, 0, none⟩ (.int .i64 ((rd_T73 l0_2 x8_1).f0))).setCell ⟨gb301, 1, none⟩ (.int .i64 ((rd_T73 l0_2 x8_1).f1)))).cell? _ = some _ from hx304_1)); clear hn304_0; clear hn304_1; replace p304 := eq_true p304; replace q304 := eq_true q304) | (go_at_call 54; (with_reducible refine (impl_isMember.calls ((rd_T73 l0_2 x8_1).f0) true _ A7.out).mono ?_); rintro e w' ⟨rfl, ⟨nd, rfl⟩⟩; (try exact d1_)) | (go_at_call 46; (with_reducible refine (impl_in.calls ((rd_T73 l0_2 x8_1).f1) 0 1000000000 true _ A9.out).mono ?_); rintro e w' ⟨rfl, ⟨nd, rfl⟩⟩; (try exact d1_))); try go_wp2_with (first | ((with_reducible refine gate_dst (N := 4) rfl ?_); (try (refine gate_guard (by rfl) ?_; dsimp only)); refine bx_ 4 #[.int .i64 0, .int .i64 0] 73 ?_; intro gb301 hg w16 hbox hb; have GW301 := b6_ hg HB; have GE301 := b6_ hg HB; have NB297_301 := b4_ hg BK297; have NB301_297 := b5_ hg BK297; replace BK297 := b3_ BK297 hb; replace HB := A_ (below_step (y1_ HB.out) hb); have BK301 := A_ (hbox); clear hb hbox hg; have hnb17 := NB301_297.out; have hnc17 := NB297_301.out; have hcz18_0 := c1_ BK301 0 (.int .i64 0); have hcz18_1 := c1_ BK301 1 (.int .i64 0); have hfz18_0 := f1_ BK301 0; have hfz18_1 := f1_ BK301 1; have hcz19_0 := c1_ BK297 0 (.slice A0_0 l0_0.length c0_0); have hcz19_1 := c1_ BK297 1 (.slice A0_1 l0_1.length c0_1); have hcz19_2 := c1_ BK297 2 (.slice (some ad300) l0_2.length c0_2); have hfz19_0 := f1_ BK297 0; have hfz19_1 := f1_ BK297 1; have hfz19_2 := f1_ BK297 2; have p304 : 0 ≤ ((ji12) : Int) := o1_; have q304 : (ji12) < (l0_2.length : Int) := o1_; obtain ⟨ad304, e304, hx304_0, hx304_1⟩ := at_T73 HR0_2.out (ji12) p304 q304; obtain rfl : ad300 = ad304 := (by injection e304); have hn304_0 : ad300.block ≠ gb301 := Nat.ne_of_lt (Nat.lt_of_lt_of_le (by have := World.block_lt_of_cell? _ _ hx304_0; first | rwa [add_block] at this | exact this) GW301.out); have hn304_1 : ad300.block ≠ gb301 := Nat.ne_of_lt (Nat.lt_of_lt_of_le (by have := World.block_lt_of_cell? _ _ hx304_0; first | rwa [add_block] at this | exact this) GW301.out); replace hx304_0 := (HB.out.cell (World.block_lt_of_cell? w _ hx304_0)).trans hx304_0; replace hx304_1 := (HB.out.cell (World.block_lt_of_cell? w _ hx304_1)).trans hx304_1; replace hx304_0 := (cell_far (p := ⟨gb301, 0, none⟩) (by first | (rw [add_block]; exact hn304_0) | (show (Addr.add _ _).block ≠ _; rw [add_block]; exact hn304_0) | exact hn304_0) (.int .i64 ((rd_T73 l0_2 x8_1).f0))).trans hx304_0; replace hx304_1 := (cell_far (p := ⟨gb301, 0, none⟩) (by first | (rw [add_block]; exact hn304_0) | (show (Addr.add _ _).block ≠ _; rw [add_block]; exact hn304_0) | exact hn304_0) (.int .i64 ((rd_T73 l0_2 x8_1).f0))).trans hx304_1; replace hx304_0 := (cell_far (p := ⟨gb301, 1, none⟩) (by first | (rw [add_block]; exact hn304_1) | (show (Addr.add _ _).block ≠ _; rw [add_block]; exact hn304_1) | exact hn304_1) (.int .i64 ((rd_T73 l0_2 x8_1).f1))).trans hx304_0; replace hx304_1 := (cell_far (p := ⟨gb301, 1, none⟩) (by first | (rw [add_block]; exact hn304_1) | (show (Addr.add _ _).block ≠ _; rw [add_block]; exact hn304_1) | exact hn304_1) (.int .i64 ((rd_T73 l0_2 x8_1).f1))).trans hx304_1; (try have hy304_0 := fun (n_ : Nat) => (show ((((w16.drewN n_).setCell ⟨gb301, 0, none⟩ (.int .i64 ((rd_T73 l0_2 x8_1).f0))).setCell ⟨gb301, 1, none⟩ (.int .i64 ((rd_T73 l0_2 x8_1).f1)))).cell? _ = some _ from hx304_0)); (try have hy304_1 := fun (n_ : Nat) => (show ((((w16.drewN n_).setCell ⟨gb301, 0, none⟩ (.int .i64 ((rd_T73 l0_2 x8_1).f0))).setCell ⟨gb301, 1, none⟩ (.int .i64 ((rd_T73 l0_2 x8_1).f1)))).cell? _ = some _ from hx304_1)); clear hn304_0; clear hn304_1; replace p304 := eq_true p304; replace q304 := eq_true q304) | (go_at_call 54; (with_reducible refine (impl_isMember.calls ((rd_T73 l0_2 x8_1).f0) true _ A7.out).mono ?_); rintro e w' ⟨rfl, ⟨nd, rfl⟩⟩; (try exact d1_)) | (go_at_call 46; (with_reducible refine (impl_in.calls ((rd_T73 l0_2 x8_1).f1) 0 1000000000 true _ A9.out).mono ?_); rintro e w' ⟨rfl, ⟨nd, rfl⟩⟩; (try exact d1_))))
 go_ret
 exact ⟨by first | rfl | (simp [errW_none, errW_some] <;> rfl) | (simp only [← hji12]; first | rfl | (simp [errW_none, errW_some] <;> rfl)) | (simp [*, errW_none, errW_some] <;> rfl), by repeat (first | (with_reducible first | exact HB.out | apply below_alloc | apply pw_below_drewN | apply below_drew1 | refine below_set ?_ GE301.out) | exact HB.out)⟩}
 {
 rw [if_neg c15] at H
 have c15b0 : decide (((rd_T73 l0_2 x8_1).f0) ≤ ((rd_T73 l0_2 (ji12)).f0)) = false := decide_eq_false c15
 clear c15
 have H' := A_ H
 clear H
 have p300 : 0 ≤ (x8_1 : Int) := o1_
 have q300 : x8_1 < (l0_2.length : Int) := o1_
 obtain ⟨ad300, e300, hx300_0, hx300_1⟩ := at_T73 HR0_2.out x8_1 p300 q300
 cases e300
 replace hx300_0 := (HB.out.cell (World.block_lt_of_cell? w _ hx300_0)).trans hx300_0
 replace hx300_1 := (HB.out.cell (World.block_lt_of_cell? w _ hx300_1)).trans hx300_1
 replace p300 := eq_true p300
 replace q300 := eq_true q300
 go_wp2_with (first | ((with_reducible refine gate_dst (N := 4) rfl ?_); (try (refine gate_guard (by rfl) ?_; dsimp only)); refine bx_ 4 #[.int .i64 0, .int .i64 0] 73 ?_; intro gb301 hg w20 hbox hb; have GW301 := b6_ hg HB; have GE301 := b6_ hg HB; have NB297_301 := b4_ hg BK297; have NB301_297 := b5_ hg BK297; replace BK297 := b3_ BK297 hb; replace HB := A_ (below_step (y1_ HB.out) hb); have BK301 := A_ (hbox); clear hb hbox hg; have hnb21 := NB301_297.out; have hnc21 := NB297_301.out; have hcz22_0 := c1_ BK301 0 (.int .i64 0); have hcz22_1 := c1_ BK301 1 (.int .i64 0); have hfz22_0 := f1_ BK301 0; have hfz22_1 := f1_ BK301 1; have hcz23_0 := c1_ BK297 0 (.slice A0_0 l0_0.length c0_0); have hcz23_1 := c1_ BK297 1 (.slice A0_1 l0_1.length c0_1); have hcz23_2 := c1_ BK297 2 (.slice (some ad300) l0_2.length c0_2); have hfz23_0 := f1_ BK297 0; have hfz23_1 := f1_ BK297 1; have hfz23_2 := f1_ BK297 2; have p304 : 0 ≤ ((ji12) : Int) := o1_; have q304 : (ji12) < (l0_2.length : Int) := o1_; obtain ⟨ad304, e304, hx304_0, hx304_1⟩ := at_T73 HR0_2.out (ji12) p304 q304; obtain rfl : ad300 = ad304 := (by injection e304); have hn304_0 : ad300.block ≠ gb301 := Nat.ne_of_lt (Nat.lt_of_lt_of_le (by have := World.block_lt_of_cell? _ _ hx304_0; first | rwa [add_block] at this | exact this) GW301.out); have hn304_1 : ad300.block ≠ gb301 := Nat.ne_of_lt (Nat.lt_of_lt_of_le (by have := World.block_lt_of_cell? _ _ hx304_0; first | rwa [add_block] at this | exact this) GW301.out); replace hx304_0 := (HB.out.cell (World.block_lt_of_cell? w _ hx304_0)).trans hx304_0; replace hx304_1 := (HB.out.cell (World.block_lt_of_cell? w _ hx304_1)).trans hx304_1; replace hx304_0 := (cell_far (p := ⟨gb301, 0, none⟩) (by first | (rw [add_block]; exact hn304_0) | (show (Addr.add _ _).block ≠ _; rw [add_block]; exact hn304_0) | exact hn304_0) (.int .i64 ((rd_T73 l0_2 x8_1).f0))).trans hx304_0; replace hx304_1 := (cell_far (p := ⟨gb301, 0, none⟩) (by first | (rw [add_block]; exact hn304_0) | (show (Addr.add _ _).block ≠ _; rw [add_block]; exact hn304_0) | exact hn304_0) (.int .i64 ((rd_T73 l0_2 x8_1).f0))).trans hx304_1; replace hx304_0 := (cell_far (p := ⟨gb301, 1, none⟩) (by first | (rw [add_block]; exact hn304_1) | (show (Addr.add _ _).block ≠ _; rw [add_block]; exact hn304_1) | exact hn304_1) (.int .i64 ((rd_T73 l0_2 x8_1).f1))).trans hx304_0; replace hx304_1 := (cell_far (p := ⟨gb301, 1, none⟩) (by first | (rw [add_block]; exact hn304_1) | (show (Addr.add _ _).block ≠ _; rw [add_block]; exact hn304_1) | exact hn304_1) (.int .i64 ((rd_T73 l0_2 x8_1).f1))).trans hx304_1; (try have hy304_0 := fun (n_ : Nat) => (show ((((w20.drewN n_).setCell ⟨gb301, 0, none⟩ (.int .i64 ((rd_T73 l0_2 x8_1).f0))).setCell ⟨gb301, 1, none⟩ (.int .i64 ((rd_T73 l0_2 x8_1).f1)))).cell? _ = some _ from hx304_0)); (try have hy304_1 := fun (n_ : Nat) => (show ((((w20.drewN n_).setCell ⟨gb301, 0, none⟩ (.int .i64 ((rd_T73 l0_2 x8_1).f0))).setCell ⟨gb301, 1, none⟩ (.int .i64 ((rd_T73 l0_2 x8_1).f1)))).cell? _ = some _ from hx304_1)); clear hn304_0; clear hn304_1; replace p304 := eq_true p304; replace q304 := eq_true q304) | (go_at_call 54; (with_reducible refine (impl_isMember.calls ((rd_T73 l0_2 x8_1).f0) true _ A7.out).mono ?_); rintro e w' ⟨rfl, ⟨nd, rfl⟩⟩; (try exact d1_)) | (go_at_call 46; (with_reducible refine (impl_in.calls ((rd_T73 l0_2 x8_1).f1) 0 1000000000 true _ A9.out).mono ?_); rintro e w' ⟨rfl, ⟨nd, rfl⟩⟩; (try exact d1_)))
 repeat (go_quiet (first | ((with_reducible refine gate_dst (N := 4) rfl ?_); (try (refine gate_guard (by rfl) ?_; dsimp only)); refine bx_ 4 #[.int .i64 0, .int .i64 0] 73 ?_; intro gb301 hg w20 hbox hb; have GW301 := b6_ hg HB; have GE301 := b6_ hg HB; have NB297_301 := b4_ hg BK297; have NB301_297 := b5_ hg BK297; replace BK297 := b3_ BK297 hb; replace HB := A_ (below_step (y1_ HB.out) hb); have BK301 := A_ (hbox); clear hb hbox hg; have hnb21 := NB301_297.out; have hnc21 := NB297_301.out; have hcz22_0 := c1_ BK301 0 (.int .i64 0); have hcz22_1 := c1_ BK301 1 (.int .i64 0); have hfz22_0 := f1_ BK301 0; have hfz22_1 := f1_ BK301 1; have hcz23_0 := c1_ BK297 0 (.slice A0_0 l0_0.length c0_0); have hcz23_1 := c1_ BK297 1 (.slice A0_1 l0_1.length c0_1); have hcz23_2 := c1_ BK297 2 (.slice (some ad300) l0_2.length c0_2); have hfz23_0 := f1_ BK297 0; have hfz23_1 := f1_ BK297 1; have hfz23_2 := f1_ BK297 2; have p304 : 0 ≤ ((ji12) : Int) := o1_; have q304 : (ji12) < (l0_2.length : Int) := o1_; obtain ⟨ad304, e304, hx304_0, hx304_1⟩ := at_T73 HR0_2.out (ji12) p304 q304; obtain rfl : ad300 = ad304 := (by injection e304); have hn304_0 : ad300.block ≠ gb301 := Nat.ne_of_lt (Nat.lt_of_lt_of_le (by have := World.block_lt_of_cell? _ _ hx304_0; first | rwa [add_block] at this | exact this) GW301.out); have hn304_1 : ad300.block ≠ gb301 := Nat.ne_of_lt (Nat.lt_of_lt_of_le (by have := World.block_lt_of_cell? _ _ hx304_0; first | rwa [add_block] at this | exact this) GW301.out); replace hx304_0 := (HB.out.cell (World.block_lt_of_cell? w _ hx304_0)).trans hx304_0; replace hx304_1 := (HB.out.cell (World.block_lt_of_cell? w _ hx304_1)).trans hx304_1; replace hx304_0 := (cell_far (p := ⟨gb301, 0, none⟩) (by first | (rw [add_block]; exact hn304_0) | (show (Addr.add _ _).block ≠ _; rw [add_block]; exact hn304_0) | exact hn304_0) (.int .i64 ((rd_T73 l0_2 x8_1).f0))).trans hx304_0; replace hx304_1 := (cell_far (p := ⟨gb301, 0, none⟩) (by first | (rw [add_block]; exact hn304_0) | (show (Addr.add _ _).block ≠ _; rw [add_block]; exact hn304_0) | exact hn304_0) (.int .i64 ((rd_T73 l0_2 x8_1).f0))).trans hx304_1; replace hx304_0 := (cell_far (p := ⟨gb301, 1, none⟩) (by first | (rw [add_block]; exact hn304_1) | (show (Addr.add _ _).block ≠ _; rw [add_block]; exact hn304_1) | exact hn304_1) (.int .i64 ((rd_T73 l0_2 x8_1).f1))).trans hx304_0; replace hx304_1 := (cell_far (p := ⟨gb301, 1, none⟩) (by first | (rw [add_block]; exact hn304_1) | (show (Addr.add _ _).block ≠ _; rw [add_block]; exact hn304_1) | exact hn304_1) (.int .i64 ((rd_T73 l0_2 x8_1).f1))).trans hx304_1; (try have hy304_0 := fun (n_ : Nat) => (show ((((w20.drewN n_).setCell ⟨gb301, 0, none⟩ (.int .i64 ((rd_T73 l0_2 x8_1).f0))).setCell ⟨gb301, 1, none⟩ (.int .i64 ((rd_T73 l0_2 x8_1).f1)))).cell? _ = some _ from hx304_0)); (try have hy304_1 := fun (n_ : Nat) => (show ((((w20.drewN n_).setCell ⟨gb301, 0, none⟩ (.int .i64 ((rd_T73 l0_2 x8_1).f0))).setCell ⟨gb301, 1, none⟩ (.int .i64 ((rd_T73 l0_2 x8_1).f1)))).cell? _ = some _ from hx304_1)); clear hn304_0; clear hn304_1; replace p304 := eq_true p304; replace q304 := eq_true q304) | (go_at_call 54; (with_reducible refine (impl_isMember.calls ((rd_T73 l0_2 x8_1).f0) true _ A7.out).mono ?_); rintro e w' ⟨rfl, ⟨nd, rfl⟩⟩; (try exact d1_)) | (go_at_call 46; (with_reducible refine (impl_in.calls ((rd_T73 l0_2 x8_1).f1) 0 1000000000 true _ A9.out).mono ?_); rintro e w' ⟨rfl, ⟨nd, rfl⟩⟩; (try exact d1_))); try go_wp2_with (first | ((with_reducible refine gate_dst (N := 4) rfl ?_); (try (refine gate_guard (by rfl) ?_; dsimp only)); refine bx_ 4 #[.int .i64 0, .int .i64 0] 73 ?_; intro gb301 hg w20 hbox hb; have GW301 := b6_ hg HB; have GE301 := b6_ hg HB; have NB297_301 := b4_ hg BK297; have NB301_297 := b5_ hg BK297; replace BK297 := b3_ BK297 hb; replace HB := A_ (below_step (y1_ HB.out) hb); have BK301 := A_ (hbox); clear hb hbox hg; have hnb21 := NB301_297.out; have hnc21 := NB297_301.out; have hcz22_0 := c1_ BK301 0 (.int .i64 0); have hcz22_1 := c1_ BK301 1 (.int .i64 0); have hfz22_0 := f1_ BK301 0; have hfz22_1 := f1_ BK301 1; have hcz23_0 := c1_ BK297 0 (.slice A0_0 l0_0.length c0_0); have hcz23_1 := c1_ BK297 1 (.slice A0_1 l0_1.length c0_1); have hcz23_2 := c1_ BK297 2 (.slice (some ad300) l0_2.length c0_2); have hfz23_0 := f1_ BK297 0; have hfz23_1 := f1_ BK297 1; have hfz23_2 := f1_ BK297 2; have p304 : 0 ≤ ((ji12) : Int) := o1_; have q304 : (ji12) < (l0_2.length : Int) := o1_; obtain ⟨ad304, e304, hx304_0, hx304_1⟩ := at_T73 HR0_2.out (ji12) p304 q304; obtain rfl : ad300 = ad304 := (by injection e304); have hn304_0 : ad300.block ≠ gb301 := Nat.ne_of_lt (Nat.lt_of_lt_of_le (by have := World.block_lt_of_cell? _ _ hx304_0; first | rwa [add_block] at this | exact this) GW301.out); have hn304_1 : ad300.block ≠ gb301 := Nat.ne_of_lt (Nat.lt_of_lt_of_le (by have := World.block_lt_of_cell? _ _ hx304_0; first | rwa [add_block] at this | exact this) GW301.out); replace hx304_0 := (HB.out.cell (World.block_lt_of_cell? w _ hx304_0)).trans hx304_0; replace hx304_1 := (HB.out.cell (World.block_lt_of_cell? w _ hx304_1)).trans hx304_1; replace hx304_0 := (cell_far (p := ⟨gb301, 0, none⟩) (by first | (rw [add_block]; exact hn304_0) | (show (Addr.add _ _).block ≠ _; rw [add_block]; exact hn304_0) | exact hn304_0) (.int .i64 ((rd_T73 l0_2 x8_1).f0))).trans hx304_0; replace hx304_1 := (cell_far (p := ⟨gb301, 0, none⟩) (by first | (rw [add_block]; exact hn304_0) | (show (Addr.add _ _).block ≠ _; rw [add_block]; exact hn304_0) | exact hn304_0) (.int .i64 ((rd_T73 l0_2 x8_1).f0))).trans hx304_1; replace hx304_0 := (cell_far (p := ⟨gb301, 1, none⟩) (by first | (rw [add_block]; exact hn304_1) | (show (Addr.add _ _).block ≠ _; rw [add_block]; exact hn304_1) | exact hn304_1) (.int .i64 ((rd_T73 l0_2 x8_1).f1))).trans hx304_0; replace hx304_1 := (cell_far (p := ⟨gb301, 1, none⟩) (by first | (rw [add_block]; exact hn304_1) | (show (Addr.add _ _).block ≠ _; rw [add_block]; exact hn304_1) | exact hn304_1) (.int .i64 ((rd_T73 l0_2 x8_1).f1))).trans hx304_1; (try have hy304_0 := fun (n_ : Nat) => (show ((((w20.drewN n_).setCell ⟨gb301, 0, none⟩ (.int .i64 ((rd_T73 l0_2 x8_1).f0))).setCell ⟨gb301, 1, none⟩ (.int .i64 ((rd_T73 l0_2 x8_1).f1)))).cell? _ = some _ from hx304_0)); (try have hy304_1 := fun (n_ : Nat) => (show ((((w20.drewN n_).setCell ⟨gb301, 0, none⟩ (.int .i64 ((rd_T73 l0_2 x8_1).f0))).setCell ⟨gb301, 1, none⟩ (.int .i64 ((rd_T73 l0_2 x8_1).f1)))).cell? _ = some _ from hx304_1)); clear hn304_0; clear hn304_1; replace p304 := eq_true p304; replace q304 := eq_true q304) | (go_at_call 54; (with_reducible refine (impl_isMember.calls ((rd_T73 l0_2 x8_1).f0) true _ A7.out).mono ?_); rintro e w' ⟨rfl, ⟨nd, rfl⟩⟩; (try exact d1_)) | (go_at_call 46; (with_reducible refine (impl_in.calls ((rd_T73 l0_2 x8_1).f1) 0 1000000000 true _ A9.out).mono ?_); rintro e w' ⟨rfl, ⟨nd, rfl⟩⟩; (try exact d1_))))
 go_roundg k1
 case measure => have := HK1.out; omega
 case rel => exact ⟨(wrap64 (x8_1 + 1)), s1_, H', ⟨by have := HK1.out; omega⟩, ⟨by refine b1_ ?_; refine blk_far ?_ NB297_301.out _; refine b1_ ?_; refine blk_far ?_ NB297_301.out _; refine b1_ ?_; exact BK297.out⟩, ⟨by repeat (first | (with_reducible first | exact HB.out | apply below_alloc | apply pw_below_drewN | apply below_drew1 | refine below_set ?_ GE301.out) | exact HB.out)⟩⟩}}
 {
 rw [if_neg c14] at H
 exact absurd H (by simp)}}
 {
 rw [if_neg c13] at H
 exact absurd H (by simp)}}
 {
 rw [if_neg c11] at H
 have c11b0 : decide (0 < x8_1) = false := decide_eq_false c11
 clear c11
 have H' := A_ H
 clear H
 have p300 : 0 ≤ (x8_1 : Int) := o1_
 have q300 : x8_1 < (l0_2.length : Int) := o1_
 obtain ⟨ad300, e300, hx300_0, hx300_1⟩ := at_T73 HR0_2.out x8_1 p300 q300
 cases e300
 replace hx300_0 := (HB.out.cell (World.block_lt_of_cell? w _ hx300_0)).trans hx300_0
 replace hx300_1 := (HB.out.cell (World.block_lt_of_cell? w _ hx300_1)).trans hx300_1
 replace p300 := eq_true p300
 replace q300 := eq_true q300
 go_wp2_with (first | ((with_reducible refine gate_dst (N := 4) rfl ?_); (try (refine gate_guard (by rfl) ?_; dsimp only)); refine bx_ 4 #[.int .i64 0, .int .i64 0] 73 ?_; intro gb301 hg w24 hbox hb; have GW301 := b6_ hg HB; have GE301 := b6_ hg HB; have NB297_301 := b4_ hg BK297; have NB301_297 := b5_ hg BK297; replace BK297 := b3_ BK297 hb; replace HB := A_ (below_step (y1_ HB.out) hb); have BK301 := A_ (hbox); clear hb hbox hg; have hnb25 := NB301_297.out; have hnc25 := NB297_301.out; have hcz26_0 := c1_ BK301 0 (.int .i64 0); have hcz26_1 := c1_ BK301 1 (.int .i64 0); have hfz26_0 := f1_ BK301 0; have hfz26_1 := f1_ BK301 1) | (go_at_call 54; (with_reducible refine (impl_isMember.calls ((rd_T73 l0_2 x8_1).f0) true _ A7.out).mono ?_); rintro e w' ⟨rfl, ⟨nd, rfl⟩⟩; (try exact d1_)) | (go_at_call 46; (with_reducible refine (impl_in.calls ((rd_T73 l0_2 x8_1).f1) 0 1000000000 true _ A9.out).mono ?_); rintro e w' ⟨rfl, ⟨nd, rfl⟩⟩; (try exact d1_)))
 repeat (go_quiet (first | ((with_reducible refine gate_dst (N := 4) rfl ?_); (try (refine gate_guard (by rfl) ?_; dsimp only)); refine bx_ 4 #[.int .i64 0, .int .i64 0] 73 ?_; intro gb301 hg w24 hbox hb; have GW301 := b6_ hg HB; have GE301 := b6_ hg HB; have NB297_301 := b4_ hg BK297; have NB301_297 := b5_ hg BK297; replace BK297 := b3_ BK297 hb; replace HB := A_ (below_step (y1_ HB.out) hb); have BK301 := A_ (hbox); clear hb hbox hg; have hnb25 := NB301_297.out; have hnc25 := NB297_301.out; have hcz26_0 := c1_ BK301 0 (.int .i64 0); have hcz26_1 := c1_ BK301 1 (.int .i64 0); have hfz26_0 := f1_ BK301 0; have hfz26_1 := f1_ BK301 1) | (go_at_call 54; (with_reducible refine (impl_isMember.calls ((rd_T73 l0_2 x8_1).f0) true _ A7.out).mono ?_); rintro e w' ⟨rfl, ⟨nd, rfl⟩⟩; (try exact d1_)) | (go_at_call 46; (with_reducible refine (impl_in.calls ((rd_T73 l0_2 x8_1).f1) 0 1000000000 true _ A9.out).mono ?_); rintro e w' ⟨rfl, ⟨nd, rfl⟩⟩; (try exact d1_))); try go_wp2_with (first | ((with_reducible refine gate_dst (N := 4) rfl ?_); (try (refine gate_guard (by rfl) ?_; dsimp only)); refine bx_ 4 #[.int .i64 0, .int .i64 0] 73 ?_; intro gb301 hg w24 hbox hb; have GW301 := b6_ hg HB; have GE301 := b6_ hg HB; have NB297_301 := b4_ hg BK297; have NB301_297 := b5_ hg BK297; replace BK297 := b3_ BK297 hb; replace HB := A_ (below_step (y1_ HB.out) hb); have BK301 := A_ (hbox); clear hb hbox hg; have hnb25 := NB301_297.out; have hnc25 := NB297_301.out; have hcz26_0 := c1_ BK301 0 (.int .i64 0); have hcz26_1 := c1_ BK301 1 (.int .i64 0); have hfz26_0 := f1_ BK301 0; have hfz26_1 := f1_ BK301 1) | (go_at_call 54; (with_reducible refine (impl_isMember.calls ((rd_T73 l0_2 x8_1).f0) true _ A7.out).mono ?_); rintro e w' ⟨rfl, ⟨nd, rfl⟩⟩; (try exact d1_)) | (go_at_call 46; (with_reducible refine (impl_in.calls ((rd_T73 l0_2 x8_1).f1) 0 1000000000 true _ A9.out).mono ?_); rintro e w' ⟨rfl, ⟨nd, rfl⟩⟩; (try exact d1_))))
 go_roundg k1
 case measure => have := HK1.out; omega
 case rel => exact ⟨(wrap64 (x8_1 + 1)), s1_, H', ⟨by have := HK1.out; omega⟩, ⟨by refine b1_ ?_; refine blk_far ?_ NB297_301.out _; refine b1_ ?_; refine blk_far ?_ NB297_301.out _; refine b1_ ?_; exact BK297.out⟩, ⟨by repeat (first | (with_reducible first | exact HB.out | apply below_alloc | apply pw_below_drewN | apply below_drew1 | refine below_set ?_ GE301.out) | exact HB.out)⟩⟩}}
 {
 replace c10 := Bool.eq_false_iff.mpr c10
 subst c10
 have H1 : (some false) = some r := by rw [if_neg (show ¬ (false = true) by decide)] at H; exact H
 clear H
 have H := H1
 clear H1
 obtain rfl := Option.some.inj H
 have p300 : 0 ≤ (x8_1 : Int) := o1_
 have q300 : x8_1 < (l0_2.length : Int) := o1_
 obtain ⟨ad300, e300, hx300_0, hx300_1⟩ := at_T73 HR0_2.out x8_1 p300 q300
 cases e300
 replace hx300_0 := (HB.out.cell (World.block_lt_of_cell? w _ hx300_0)).trans hx300_0
 replace hx300_1 := (HB.out.cell (World.block_lt_of_cell? w _ hx300_1)).trans hx300_1
 replace p300 := eq_true p300
 replace q300 := eq_true q300
 go_wp2_with (first | ((with_reducible refine gate_dst (N := 4) rfl ?_); (try (refine gate_guard (by rfl) ?_; dsimp only)); refine bx_ 4 #[.int .i64 0, .int .i64 0] 73 ?_; intro gb301 hg w27 hbox hb; have GW301 := b6_ hg HB; have GE301 := b6_ hg HB; have NB297_301 := b4_ hg BK297; have NB301_297 := b5_ hg BK297; replace BK297 := b3_ BK297 hb; replace HB := A_ (below_step (y1_ HB.out) hb); have BK301 := A_ (hbox); clear hb hbox hg; have hnb28 := NB301_297.out; have hnc28 := NB297_301.out; have hcz29_0 := c1_ BK301 0 (.int .i64 0); have hcz29_1 := c1_ BK301 1 (.int .i64 0); have hfz29_0 := f1_ BK301 0; have hfz29_1 := f1_ BK301 1) | (go_at_call 54; (with_reducible refine (impl_isMember.calls ((rd_T73 l0_2 x8_1).f0) true _ A7.out).mono ?_); rintro e w' ⟨rfl, ⟨nd, rfl⟩⟩; (try exact d1_)) | (go_at_call 46; (with_reducible refine (impl_in.calls ((rd_T73 l0_2 x8_1).f1) 0 1000000000 false _ A9.out).mono ?_); rintro e w' ⟨rfl, ⟨nd, rfl⟩⟩; (try exact d1_)))
 repeat (go_quiet (first | ((with_reducible refine gate_dst (N := 4) rfl ?_); (try (refine gate_guard (by rfl) ?_; dsimp only)); refine bx_ 4 #[.int .i64 0, .int .i64 0] 73 ?_; intro gb301 hg w27 hbox hb; have GW301 := b6_ hg HB; have GE301 := b6_ hg HB; have NB297_301 := b4_ hg BK297; have NB301_297 := b5_ hg BK297; replace BK297 := b3_ BK297 hb; replace HB := A_ (below_step (y1_ HB.out) hb); have BK301 := A_ (hbox); clear hb hbox hg; have hnb28 := NB301_297.out; have hnc28 := NB297_301.out; have hcz29_0 := c1_ BK301 0 (.int .i64 0); have hcz29_1 := c1_ BK301 1 (.int .i64 0); have hfz29_0 := f1_ BK301 0; have hfz29_1 := f1_ BK301 1) | (go_at_call 54; (with_reducible refine (impl_isMember.calls ((rd_T73 l0_2 x8_1).f0) true _ A7.out).mono ?_); rintro e w' ⟨rfl, ⟨nd, rfl⟩⟩; (try exact d1_)) | (go_at_call 46; (with_reducible refine (impl_in.calls ((rd_T73 l0_2 x8_1).f1) 0 1000000000 false _ A9.out).mono ?_); rintro e w' ⟨rfl, ⟨nd, rfl⟩⟩; (try exact d1_))); try go_wp2_with (first | ((with_reducible refine gate_dst (N := 4) rfl ?_); (try (refine gate_guard (by rfl) ?_; dsimp only)); refine bx_ 4 #[.int .i64 0, .int .i64 0] 73 ?_; intro gb301 hg w27 hbox hb; have GW301 := b6_ hg HB; have GE301 := b6_ hg HB; have NB297_301 := b4_ hg BK297; have NB301_297 := b5_ hg BK297; replace BK297 := b3_ BK297 hb; replace HB := A_ (below_step (y1_ HB.out) hb); have BK301 := A_ (hbox); clear hb hbox hg; have hnb28 := NB301_297.out; have hnc28 := NB297_301.out; have hcz29_0 := c1_ BK301 0 (.int .i64 0); have hcz29_1 := c1_ BK301 1 (.int .i64 0); have hfz29_0 := f1_ BK301 0; have hfz29_1 := f1_ BK301 1) | (go_at_call 54; (with_reducible refine (impl_isMember.calls ((rd_T73 l0_2 x8_1).f0) true _ A7.out).mono ?_); rintro e w' ⟨rfl, ⟨nd, rfl⟩⟩; (try exact d1_)) | (go_at_call 46; (with_reducible refine (impl_in.calls ((rd_T73 l0_2 x8_1).f1) 0 1000000000 false _ A9.out).mono ?_); rintro e w' ⟨rfl, ⟨nd, rfl⟩⟩; (try exact d1_))))
 go_ret
 exact ⟨e1_, by repeat (first | (with_reducible first | exact HB.out | apply below_alloc | apply pw_below_drewN | apply below_drew1 | refine below_set ?_ GE301.out) | exact HB.out)⟩}}
 {
 replace c8 := Bool.eq_false_iff.mpr c8
 subst c8
 have H1 : (some false) = some r := by rw [if_neg (show ¬ (false = true) by decide)] at H; exact H
 clear H
 have H := H1
 clear H1
 obtain rfl := Option.some.inj H
 have p300 : 0 ≤ (x8_1 : Int) := o1_
 have q300 : x8_1 < (l0_2.length : Int) := o1_
 obtain ⟨ad300, e300, hx300_0, hx300_1⟩ := at_T73 HR0_2.out x8_1 p300 q300
 cases e300
 replace hx300_0 := (HB.out.cell (World.block_lt_of_cell? w _ hx300_0)).trans hx300_0
 replace hx300_1 := (HB.out.cell (World.block_lt_of_cell? w _ hx300_1)).trans hx300_1
 replace p300 := eq_true p300
 replace q300 := eq_true q300
 go_wp2_with (first | ((with_reducible refine gate_dst (N := 4) rfl ?_); (try (refine gate_guard (by rfl) ?_; dsimp only)); refine bx_ 4 #[.int .i64 0, .int .i64 0] 73 ?_; intro gb301 hg w30 hbox hb; have GW301 := b6_ hg HB; have GE301 := b6_ hg HB; have NB297_301 := b4_ hg BK297; have NB301_297 := b5_ hg BK297; replace BK297 := b3_ BK297 hb; replace HB := A_ (below_step (y1_ HB.out) hb); have BK301 := A_ (hbox); clear hb hbox hg; have hnb31 := NB301_297.out; have hnc31 := NB297_301.out; have hcz32_0 := c1_ BK301 0 (.int .i64 0); have hcz32_1 := c1_ BK301 1 (.int .i64 0); have hfz32_0 := f1_ BK301 0; have hfz32_1 := f1_ BK301 1) | (go_at_call 54; (with_reducible refine (impl_isMember.calls ((rd_T73 l0_2 x8_1).f0) false _ A7.out).mono ?_); rintro e w' ⟨rfl, ⟨nd, rfl⟩⟩; (try exact d1_)))
 repeat (go_quiet (first | ((with_reducible refine gate_dst (N := 4) rfl ?_); (try (refine gate_guard (by rfl) ?_; dsimp only)); refine bx_ 4 #[.int .i64 0, .int .i64 0] 73 ?_; intro gb301 hg w30 hbox hb; have GW301 := b6_ hg HB; have GE301 := b6_ hg HB; have NB297_301 := b4_ hg BK297; have NB301_297 := b5_ hg BK297; replace BK297 := b3_ BK297 hb; replace HB := A_ (below_step (y1_ HB.out) hb); have BK301 := A_ (hbox); clear hb hbox hg; have hnb31 := NB301_297.out; have hnc31 := NB297_301.out; have hcz32_0 := c1_ BK301 0 (.int .i64 0); have hcz32_1 := c1_ BK301 1 (.int .i64 0); have hfz32_0 := f1_ BK301 0; have hfz32_1 := f1_ BK301 1) | (go_at_call 54; (with_reducible refine (impl_isMember.calls ((rd_T73 l0_2 x8_1).f0) false _ A7.out).mono ?_); rintro e w' ⟨rfl, ⟨nd, rfl⟩⟩; (try exact d1_))); try go_wp2_with (first | ((with_reducible refine gate_dst (N := 4) rfl ?_); (try (refine gate_guard (by rfl) ?_; dsimp only)); refine bx_ 4 #[.int .i64 0, .int .i64 0] 73 ?_; intro gb301 hg w30 hbox hb; have GW301 := b6_ hg HB; have GE301 := b6_ hg HB; have NB297_301 := b4_ hg BK297; have NB301_297 := b5_ hg BK297; replace BK297 := b3_ BK297 hb; replace HB := A_ (below_step (y1_ HB.out) hb); have BK301 := A_ (hbox); clear hb hbox hg; have hnb31 := NB301_297.out; have hnc31 := NB297_301.out; have hcz32_0 := c1_ BK301 0 (.int .i64 0); have hcz32_1 := c1_ BK301 1 (.int .i64 0); have hfz32_0 := f1_ BK301 0; have hfz32_1 := f1_ BK301 1) | (go_at_call 54; (with_reducible refine (impl_isMember.calls ((rd_T73 l0_2 x8_1).f0) false _ A7.out).mono ?_); rintro e w' ⟨rfl, ⟨nd, rfl⟩⟩; (try exact d1_))))
 go_ret
 exact ⟨e1_, by repeat (first | (with_reducible first | exact HB.out | apply below_alloc | apply pw_below_drewN | apply below_drew1 | refine below_set ?_ GE301.out) | exact HB.out)⟩}}
 {
 rw [if_neg c6] at H
 exact absurd H (by simp)}}
 {
 rw [if_neg c5] at H
 exact absurd H (by simp)}}
 {
 rw [if_neg c4] at H
 have c4b0 : decide (x8_1 < (l0_2.length : Int)) = false := decide_eq_false c4
 clear c4
 replace H := Option.bind_eq_some_iff.mp H
 obtain ⟨t298, A330, H⟩ := H
 replace H : (if t298 = true then ((impl_leasesOk.f k1 l0_1).bind fun t299 => (if t299 = true then (some (decide ((l0_2.length : Int) ≤ 30))) else (some false))) else (some false)) = some r := H
 have A33 := A_ A330
 clear A330
 by_cases c34 : t298 = true
 {
 subst c34
 have H1 : ((impl_leasesOk.f k1 l0_1).bind fun t299 => (if t299 = true then (some (decide ((l0_2.length : Int) ≤ 30))) else (some false))) = some r := by rw [if_pos rfl] at H; exact H
 clear H
 have H := H1
 clear H1
 replace H := Option.bind_eq_some_iff.mp H
 obtain ⟨t299, A350, H⟩ := H
 replace H : (if t299 = true then (some (decide ((l0_2.length : Int) ≤ 30))) else (some false)) = some r := H
 have A35 := A_ A350
 clear A350
 by_cases c36 : t299 = true
 {
 subst c36
 have H1 : (some (decide ((l0_2.length : Int) ≤ 30))) = some r := by rw [if_pos rfl] at H; exact H
 clear H
 have H := H1
 clear H1
 obtain rfl := Option.some.inj H
 have hcz37_0 := c1_ BK297 0 (.slice A0_0 l0_0.length c0_0)
 have hcz37_1 := c1_ BK297 1 (.slice A0_1 l0_1.length c0_1)
 have hcz37_2 := c1_ BK297 2 (.slice A0_2 l0_2.length c0_2)
 have hfz37_0 := f1_ BK297 0
 have hfz37_1 := f1_ BK297 1
 have hfz37_2 := f1_ BK297 2
 go_wp2_with (first | (go_at_call 55; (with_reducible refine (impl_leasesOk.calls k1 _ _ l0_0 true _ ?side1 ?side2 A33.out).mono ?_); (case side1 => exact y2_ (Kd.C_below HR0_0.out HB.out)); (case side2 => exact HC0_0.out); rintro e w38 ⟨rfl, hb⟩; replace BK297 := b3_ BK297 hb; replace HB := A_ (below_step (y1_ HB.out) hb); (try clear hb); (try clear hb2); (try clear hk); (try clear hi); have hcz39_0 := c1_ BK297 0 (.slice A0_0 l0_0.length c0_0); have hcz39_1 := c1_ BK297 1 (.slice A0_1 l0_1.length c0_1); have hcz39_2 := c1_ BK297 2 (.slice A0_2 l0_2.length c0_2); have hfz39_0 := f1_ BK297 0; have hfz39_1 := f1_ BK297 1; have hfz39_2 := f1_ BK297 2) | (go_at_call 55; (with_reducible refine (impl_leasesOk.calls k1 _ _ l0_1 true _ ?side1 ?side2 A35.out).mono ?_); (case side1 => exact y2_ (Kd.C_below HR0_1.out HB.out)); (case side2 => exact HC0_1.out); rintro e w40 ⟨rfl, hb⟩; replace BK297 := b3_ BK297 hb; replace HB := A_ (below_step (y1_ HB.out) hb); (try clear hb); (try clear hb2); (try clear hk); (try clear hi); have hcz41_0 := c1_ BK297 0 (.slice A0_0 l0_0.length c0_0); have hcz41_1 := c1_ BK297 1 (.slice A0_1 l0_1.length c0_1); have hcz41_2 := c1_ BK297 2 (.slice A0_2 l0_2.length c0_2); have hfz41_0 := f1_ BK297 0; have hfz41_1 := f1_ BK297 1; have hfz41_2 := f1_ BK297 2))
 repeat (go_quiet (first | (go_at_call 55; (with_reducible refine (impl_leasesOk.calls k1 _ _ l0_0 true _ ?side1 ?side2 A33.out).mono ?_); (case side1 => exact y2_ (Kd.C_below HR0_0.out HB.out)); (case side2 => exact HC0_0.out); rintro e w38 ⟨rfl, hb⟩; replace BK297 := b3_ BK297 hb; replace HB := A_ (below_step (y1_ HB.out) hb); (try clear hb); (try clear hb2); (try clear hk); (try clear hi); have hcz39_0 := c1_ BK297 0 (.slice A0_0 l0_0.length c0_0); have hcz39_1 := c1_ BK297 1 (.slice A0_1 l0_1.length c0_1); have hcz39_2 := c1_ BK297 2 (.slice A0_2 l0_2.length c0_2); have hfz39_0 := f1_ BK297 0; have hfz39_1 := f1_ BK297 1; have hfz39_2 := f1_ BK297 2) | (go_at_call 55; (with_reducible refine (impl_leasesOk.calls k1 _ _ l0_1 true _ ?side1 ?side2 A35.out).mono ?_); (case side1 => exact y2_ (Kd.C_below HR0_1.out HB.out)); (case side2 => exact HC0_1.out); rintro e w40 ⟨rfl, hb⟩; replace BK297 := b3_ BK297 hb; replace HB := A_ (below_step (y1_ HB.out) hb); (try clear hb); (try clear hb2); (try clear hk); (try clear hi); have hcz41_0 := c1_ BK297 0 (.slice A0_0 l0_0.length c0_0); have hcz41_1 := c1_ BK297 1 (.slice A0_1 l0_1.length c0_1); have hcz41_2 := c1_ BK297 2 (.slice A0_2 l0_2.length c0_2); have hfz41_0 := f1_ BK297 0; have hfz41_1 := f1_ BK297 1; have hfz41_2 := f1_ BK297 2)); try go_wp2_with (first | (go_at_call 55; (with_reducible refine (impl_leasesOk.calls k1 _ _ l0_0 true _ ?side1 ?side2 A33.out).mono ?_); (case side1 => exact y2_ (Kd.C_below HR0_0.out HB.out)); (case side2 => exact HC0_0.out); rintro e w38 ⟨rfl, hb⟩; replace BK297 := b3_ BK297 hb; replace HB := A_ (below_step (y1_ HB.out) hb); (try clear hb); (try clear hb2); (try clear hk); (try clear hi); have hcz39_0 := c1_ BK297 0 (.slice A0_0 l0_0.length c0_0); have hcz39_1 := c1_ BK297 1 (.slice A0_1 l0_1.length c0_1); have hcz39_2 := c1_ BK297 2 (.slice A0_2 l0_2.length c0_2); have hfz39_0 := f1_ BK297 0; have hfz39_1 := f1_ BK297 1; have hfz39_2 := f1_ BK297 2) | (go_at_call 55; (with_reducible refine (impl_leasesOk.calls k1 _ _ l0_1 true _ ?side1 ?side2 A35.out).mono ?_); (case side1 => exact y2_ (Kd.C_below HR0_1.out HB.out)); (case side2 => exact HC0_1.out); rintro e w40 ⟨rfl, hb⟩; replace BK297 := b3_ BK297 hb; replace HB := A_ (below_step (y1_ HB.out) hb); (try clear hb); (try clear hb2); (try clear hk); (try clear hi); have hcz41_0 := c1_ BK297 0 (.slice A0_0 l0_0.length c0_0); have hcz41_1 := c1_ BK297 1 (.slice A0_1 l0_1.length c0_1); have hcz41_2 := c1_ BK297 2 (.slice A0_2 l0_2.length c0_2); have hfz41_0 := f1_ BK297 0; have hfz41_1 := f1_ BK297 1; have hfz41_2 := f1_ BK297 2)))
 go_ret
 exact ⟨e1_, y1_ HB.out⟩}
 {
 replace c36 := Bool.eq_false_iff.mpr c36
 subst c36
 have H1 : (some false) = some r := by rw [if_neg (show ¬ (false = true) by decide)] at H; exact H
 clear H
 have H := H1
 clear H1
 obtain rfl := Option.some.inj H
 have hcz42_0 := c1_ BK297 0 (.slice A0_0 l0_0.length c0_0)
 have hcz42_1 := c1_ BK297 1 (.slice A0_1 l0_1.length c0_1)
 have hcz42_2 := c1_ BK297 2 (.slice A0_2 l0_2.length c0_2)
 have hfz42_0 := f1_ BK297 0
 have hfz42_1 := f1_ BK297 1
 have hfz42_2 := f1_ BK297 2
 go_wp2_with (first | (go_at_call 55; (with_reducible refine (impl_leasesOk.calls k1 _ _ l0_0 true _ ?side1 ?side2 A33.out).mono ?_); (case side1 => exact y2_ (Kd.C_below HR0_0.out HB.out)); (case side2 => exact HC0_0.out); rintro e w43 ⟨rfl, hb⟩; replace BK297 := b3_ BK297 hb; replace HB := A_ (below_step (y1_ HB.out) hb); (try clear hb); (try clear hb2); (try clear hk); (try clear hi); have hcz44_0 := c1_ BK297 0 (.slice A0_0 l0_0.length c0_0); have hcz44_1 := c1_ BK297 1 (.slice A0_1 l0_1.length c0_1); have hcz44_2 := c1_ BK297 2 (.slice A0_2 l0_2.length c0_2); have hfz44_0 := f1_ BK297 0; have hfz44_1 := f1_ BK297 1; have hfz44_2 := f1_ BK297 2) | (go_at_call 55; (with_reducible refine (impl_leasesOk.calls k1 _ _ l0_1 false _ ?side1 ?side2 A35.out).mono ?_); (case side1 => exact y2_ (Kd.C_below HR0_1.out HB.out)); (case side2 => exact HC0_1.out); rintro e w45 ⟨rfl, hb⟩; replace BK297 := b3_ BK297 hb; replace HB := A_ (below_step (y1_ HB.out) hb); (try clear hb); (try clear hb2); (try clear hk); (try clear hi)))
 repeat (go_quiet (first | (go_at_call 55; (with_reducible refine (impl_leasesOk.calls k1 _ _ l0_0 true _ ?side1 ?side2 A33.out).mono ?_); (case side1 => exact y2_ (Kd.C_below HR0_0.out HB.out)); (case side2 => exact HC0_0.out); rintro e w43 ⟨rfl, hb⟩; replace BK297 := b3_ BK297 hb; replace HB := A_ (below_step (y1_ HB.out) hb); (try clear hb); (try clear hb2); (try clear hk); (try clear hi); have hcz44_0 := c1_ BK297 0 (.slice A0_0 l0_0.length c0_0); have hcz44_1 := c1_ BK297 1 (.slice A0_1 l0_1.length c0_1); have hcz44_2 := c1_ BK297 2 (.slice A0_2 l0_2.length c0_2); have hfz44_0 := f1_ BK297 0; have hfz44_1 := f1_ BK297 1; have hfz44_2 := f1_ BK297 2) | (go_at_call 55; (with_reducible refine (impl_leasesOk.calls k1 _ _ l0_1 false _ ?side1 ?side2 A35.out).mono ?_); (case side1 => exact y2_ (Kd.C_below HR0_1.out HB.out)); (case side2 => exact HC0_1.out); rintro e w45 ⟨rfl, hb⟩; replace BK297 := b3_ BK297 hb; replace HB := A_ (below_step (y1_ HB.out) hb); (try clear hb); (try clear hb2); (try clear hk); (try clear hi))); try go_wp2_with (first | (go_at_call 55; (with_reducible refine (impl_leasesOk.calls k1 _ _ l0_0 true _ ?side1 ?side2 A33.out).mono ?_); (case side1 => exact y2_ (Kd.C_below HR0_0.out HB.out)); (case side2 => exact HC0_0.out); rintro e w43 ⟨rfl, hb⟩; replace BK297 := b3_ BK297 hb; replace HB := A_ (below_step (y1_ HB.out) hb); (try clear hb); (try clear hb2); (try clear hk); (try clear hi); have hcz44_0 := c1_ BK297 0 (.slice A0_0 l0_0.length c0_0); have hcz44_1 := c1_ BK297 1 (.slice A0_1 l0_1.length c0_1); have hcz44_2 := c1_ BK297 2 (.slice A0_2 l0_2.length c0_2); have hfz44_0 := f1_ BK297 0; have hfz44_1 := f1_ BK297 1; have hfz44_2 := f1_ BK297 2) | (go_at_call 55; (with_reducible refine (impl_leasesOk.calls k1 _ _ l0_1 false _ ?side1 ?side2 A35.out).mono ?_); (case side1 => exact y2_ (Kd.C_below HR0_1.out HB.out)); (case side2 => exact HC0_1.out); rintro e w45 ⟨rfl, hb⟩; replace BK297 := b3_ BK297 hb; replace HB := A_ (below_step (y1_ HB.out) hb); (try clear hb); (try clear hb2); (try clear hk); (try clear hi))))
 go_ret
 exact ⟨e1_, y1_ HB.out⟩}}
 {
 replace c34 := Bool.eq_false_iff.mpr c34
 subst c34
 have H1 : (some false) = some r := by rw [if_neg (show ¬ (false = true) by decide)] at H; exact H
 clear H
 have H := H1
 clear H1
 obtain rfl := Option.some.inj H
 have hcz46_0 := c1_ BK297 0 (.slice A0_0 l0_0.length c0_0)
 have hcz46_1 := c1_ BK297 1 (.slice A0_1 l0_1.length c0_1)
 have hcz46_2 := c1_ BK297 2 (.slice A0_2 l0_2.length c0_2)
 have hfz46_0 := f1_ BK297 0
 have hfz46_1 := f1_ BK297 1
 have hfz46_2 := f1_ BK297 2
 go_wp2_with (first | (go_at_call 55; (with_reducible refine (impl_leasesOk.calls k1 _ _ l0_0 false _ ?side1 ?side2 A33.out).mono ?_); (case side1 => exact y2_ (Kd.C_below HR0_0.out HB.out)); (case side2 => exact HC0_0.out); rintro e w47 ⟨rfl, hb⟩; replace BK297 := b3_ BK297 hb; replace HB := A_ (below_step (y1_ HB.out) hb); (try clear hb); (try clear hb2); (try clear hk); (try clear hi)))
 repeat (go_quiet (first | (go_at_call 55; (with_reducible refine (impl_leasesOk.calls k1 _ _ l0_0 false _ ?side1 ?side2 A33.out).mono ?_); (case side1 => exact y2_ (Kd.C_below HR0_0.out HB.out)); (case side2 => exact HC0_0.out); rintro e w47 ⟨rfl, hb⟩; replace BK297 := b3_ BK297 hb; replace HB := A_ (below_step (y1_ HB.out) hb); (try clear hb); (try clear hb2); (try clear hk); (try clear hi))); try go_wp2_with (first | (go_at_call 55; (with_reducible refine (impl_leasesOk.calls k1 _ _ l0_0 false _ ?side1 ?side2 A33.out).mono ?_); (case side1 => exact y2_ (Kd.C_below HR0_0.out HB.out)); (case side2 => exact HC0_0.out); rintro e w47 ⟨rfl, hb⟩; replace BK297 := b3_ BK297 hb; replace HB := A_ (below_step (y1_ HB.out) hb); (try clear hb); (try clear hb2); (try clear hk); (try clear hi))))
 go_ret
 exact ⟨e1_, y1_ HB.out⟩}}}}

/-! ### impl_Lease: function 113 -/
def impl_Lease.f (l0 : List (S63)) : Option (List (S63)) := if l0.length < 8796093022208 then some l0 else none
set_option maxHeartbeats 8000000 in
set_option maxRecDepth 100000 in
theorem impl_Lease.calls (A0 : Option Addr) (c0 : Nat) (l0 : List (S63)) (r : List (S63)) (w : World) (hr0 : Kd.C k63 w A0 l0.length l0) (hc0 : l0.length ≤ c0) (h : impl_Lease.f l0 = some r) :
    Calls Try.prog 113 #[.slice A0 l0.length c0] w fun e w' => ∃ v0_ : Value, e = .returned (v0_) ∧ Kd.R k63 63 w' w.heap.size (fun _ => True) v0_ r ∧ Below w.heap.size w w' := by
  have hl : l0.length < 8796093022208 := by
    unfold impl_Lease.f at h
    split at h
    · assumption
    · cases h
  obtain rfl : l0 = r := by
    unfold impl_Lease.f at h
    rw [if_pos hl] at h
    exact Option.some.inj h
  clear h
  have HR0 := A_ hr0
  have HC0 := A_ hc0
  have LM := A_ hl
  clear hr0 hc0 hl
  have HB := A_ (Below.refl w.heap.size w)
  cases A0 with
  | none =>
    have hn : l0 = [] := by
      have h1 := HR0.out.1
      have h2 := HR0.out.2.2
      rcases Nat.eq_zero_or_pos l0.length with h3 | h3
      · exact List.eq_nil_of_length_eq_zero h3
      · obtain ⟨ad, e, _⟩ := h2 h3
        cases e
    subst hn
    have hnil : ∀ W : World, (binOp .eql 24 (.slice none 0 c0) (.slice none 0 0)).run Try.prog W = .ok (.bool true) W := fun W => Lib.run_eql_slice_nil (P := Try.prog) W 24 63 none 0 c0 0 0 Try.underlying24
    simp only [List.length_nil]
    go_enter Try.func113, Try.ntmps113
    go_wp2
    go_ret
    exact ⟨_, rfl, Kd.R_nil _ _ _ _ _, HB.out⟩
  | some ad =>
    have hnil : ∀ W : World, (binOp .eql 24 (.slice (some ad) l0.length c0) (.slice none 0 0)).run Try.prog W = .ok (.bool false) W := fun W => Lib.run_eql_slice_nil (P := Try.prog) W 24 63 (some ad) l0.length c0 0 0 Try.underlying24
    go_enter Try.func113, Try.ntmps113
    go_wp2_with (first
      | ((with_reducible refine gate_dst (N := 5) rfl ?_); refine Kd.R_lit k63 (w0 := w) w.heap.size 63 ?hg (N := 5) ?hd (xs := ([] : List (S63))) (inner := []) (ok := fun _ => True) (okp := fun _ => True) ?hr ?hp (fun _ hk => hk) trivial (Below.refl _ _) (Nat.le_refl _) (by simp) ?_; (case hd => rfl); (case hg => rfl); (case hr => first | (go_simp; done) | (go_simp; rfl)); (case hp => exact (Reps.none _ _)); intro v1 w1 ho hb hg_ hnew_; have HO1 := A_ ho; have HB1 := A_ hb; have HR1 := A_ (Kd.C_below HR0.out hb); clear ho hb hg_ hnew_)
      | ((with_reducible refine gate_builtin (b := .append) (xs := #[.tmp 5, .tmp 6]) rfl ?_); at_builtin; refine Kd.R_append_rows k63 (w0 := w) w.heap.size rfl (.tmp 5) (.tmp 6) 24 63 (.agg #[(.int .i64 0), (.int .i64 0)]) 16 rfl Try.underlying24 info63 rfl (by decide) (by omega) v1 ([] : List (S63)) l0 _ _ _ (fun _ => True) (fun _ => False) rfl rfl ?aO ?aR (fun _ _ h => h) (fun _ h => h.elim) ?aF ?aB ?aS ?aL ?_; (case aO => exact HO1.out); (case aR => exact HR1.out); (case aF => exact fun _ _ => trivial); (case aB => exact HB1.out); (case aS => exact HB1.out.size); (case aL => have := LM.out; simp; omega); intro v2 w2 ho hb hg hat; have HO2 := A_ ho; have HB2 := A_ hb; clear ho hb hg hat; clear HO1 HB1 HR1))
    go_ret
    exact ⟨_, rfl, HO2.out, HB2.out⟩

/-! ### impl_Mark: function 114 -/
def impl_Mark.f (l0 : List (S73)) : Option (List (S73)) := if l0.length < 8796093022208 then some l0 else none
set_option maxHeartbeats 8000000 in
set_option maxRecDepth 100000 in
theorem impl_Mark.calls (A0 : Option Addr) (c0 : Nat) (l0 : List (S73)) (r : List (S73)) (w : World) (hr0 : Kd.C k73 w A0 l0.length l0) (hc0 : l0.length ≤ c0) (h : impl_Mark.f l0 = some r) :
    Calls Try.prog 114 #[.slice A0 l0.length c0] w fun e w' => ∃ v0_ : Value, e = .returned (v0_) ∧ Kd.R k73 73 w' w.heap.size (fun _ => True) v0_ r ∧ Below w.heap.size w w' := by
  have hl : l0.length < 8796093022208 := by
    unfold impl_Mark.f at h
    split at h
    · assumption
    · cases h
  obtain rfl : l0 = r := by
    unfold impl_Mark.f at h
    rw [if_pos hl] at h
    exact Option.some.inj h
  clear h
  have HR0 := A_ hr0
  have HC0 := A_ hc0
  have LM := A_ hl
  clear hr0 hc0 hl
  have HB := A_ (Below.refl w.heap.size w)
  cases A0 with
  | none =>
    have hn : l0 = [] := by
      have h1 := HR0.out.1
      have h2 := HR0.out.2.2
      rcases Nat.eq_zero_or_pos l0.length with h3 | h3
      · exact List.eq_nil_of_length_eq_zero h3
      · obtain ⟨ad, e, _⟩ := h2 h3
        cases e
    subst hn
    have hnil : ∀ W : World, (binOp .eql 25 (.slice none 0 c0) (.slice none 0 0)).run Try.prog W = .ok (.bool true) W := fun W => Lib.run_eql_slice_nil (P := Try.prog) W 25 73 none 0 c0 0 0 Try.underlying25
    simp only [List.length_nil]
    go_enter Try.func114, Try.ntmps114
    go_wp2
    go_ret
    exact ⟨_, rfl, Kd.R_nil _ _ _ _ _, HB.out⟩
  | some ad =>
    have hnil : ∀ W : World, (binOp .eql 25 (.slice (some ad) l0.length c0) (.slice none 0 0)).run Try.prog W = .ok (.bool false) W := fun W => Lib.run_eql_slice_nil (P := Try.prog) W 25 73 (some ad) l0.length c0 0 0 Try.underlying25
    go_enter Try.func114, Try.ntmps114
    go_wp2_with (first
      | ((with_reducible refine gate_dst (N := 5) rfl ?_); refine Kd.R_lit k73 (w0 := w) w.heap.size 73 ?hg (N := 5) ?hd (xs := ([] : List (S73))) (inner := []) (ok := fun _ => True) (okp := fun _ => True) ?hr ?hp (fun _ hk => hk) trivial (Below.refl _ _) (Nat.le_refl _) (by simp) ?_; (case hd => rfl); (case hg => rfl); (case hr => first | (go_simp; done) | (go_simp; rfl)); (case hp => exact (Reps.none _ _)); intro v1 w1 ho hb hg_ hnew_; have HO1 := A_ ho; have HB1 := A_ hb; have HR1 := A_ (Kd.C_below HR0.out hb); clear ho hb hg_ hnew_)
      | ((with_reducible refine gate_builtin (b := .append) (xs := #[.tmp 5, .tmp 6]) rfl ?_); at_builtin; refine Kd.R_append_rows k73 (w0 := w) w.heap.size rfl (.tmp 5) (.tmp 6) 25 73 (.agg #[(.int .i64 0), (.int .i64 0)]) 16 rfl Try.underlying25 info73 rfl (by decide) (by omega) v1 ([] : List (S73)) l0 _ _ _ (fun _ => True) (fun _ => False) rfl rfl ?aO ?aR (fun _ _ h => h) (fun _ h => h.elim) ?aF ?aB ?aS ?aL ?_; (case aO => exact HO1.out); (case aR => exact HR1.out); (case aF => exact fun _ _ => trivial); (case aB => exact HB1.out); (case aS => exact HB1.out.size); (case aL => have := LM.out; simp; omega); intro v2 w2 ho hb hg hat; have HO2 := A_ ho; have HB2 := A_ hb; clear ho hb hg hat; clear HO1 HB1 HR1))
    go_ret
    exact ⟨_, rfl, HO2.out, HB2.out⟩

end Go.Proofs.Ytgfilednbllkmaa.QFnExactJoinPresence
