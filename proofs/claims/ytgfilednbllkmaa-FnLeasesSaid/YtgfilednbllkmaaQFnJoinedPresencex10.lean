-- written by a program of this session, on the lines of the kit's print
import Derived.Test.YtgfilednbllkmaaQFnJoinedPresencex0
import Derived.Test.YtgfilednbllkmaaQFnJoinedPresencex9
namespace Go.Proofs.Ytgfilednbllkmaa.QFnJoinedPresence
open Go.RowKit Go.Proofs.YtgfilednbllkmaaW.PrintWords Go.Proofs.YtgfilednbllkmaaW.PrintLast Go.Proofs.YtgfilednbllkmaaW.PrintMore
attribute [local go_sem] max2_int min2_int max_two min_two max_three min_three max_four min_four   -- for this text's walks alone
set_option linter.unusedVariables false
set_option linter.unusedSimpArgs false

/-! ### impl_leasesOk: function 55 -/
abbrev impl_leasesOk.T : Bool := true
abbrev impl_leasesOk.F : Bool := false
def impl_leasesOk.l0 : Nat → List (S63) → List (S63) → Int → Int → Option (Bool)
  | 0, _, _, _, _ => none
  | k + 1, x0, x5, x6, x7 => if x7 < x6 then (if 0 ≤ x7 then (if x7 < (x5.length : Int) then ((impl_isMember.f ((rd_T63 x5 x7).f0)).bind fun t363 => (if t363 = true then ((impl_isTick.f ((rd_T63 x5 x7).f1)).bind fun t364 => (if t364 = true then (if x7 > 0 then (if 0 ≤ (wrap64 (x7 - 1)) then (if (wrap64 (x7 - 1)) < (x0.length : Int) then (if ((rd_T63 x0 (wrap64 (x7 - 1))).f0) ≥ ((rd_T63 x5 x7).f0) then (some false) else (impl_leasesOk.l0 k x0 x5 x6 (wrap64 (x7 + 1)))) else (none)) else (none)) else (impl_leasesOk.l0 k x0 x5 x6 (wrap64 (x7 + 1)))) else (some false))) else (some false))) else (none)) else (none)) else (some (decide ((x0.length : Int) ≤ 30)))
def impl_leasesOk.f (k : Nat) (l0 : List (S63)) : Option (Bool) := impl_leasesOk.l0 k l0 l0 (l0.length : Int) 0
theorem impl_leasesOk.mono_l : ∀ k, (∀ y0 y1 y2 y3, LeO (impl_leasesOk.l0 k y0 y1 y2 y3) (impl_leasesOk.l0 (k + 1) y0 y1 y2 y3))
  | 0 => fun _ _ _ _ r h => by simp [impl_leasesOk.l0] at h
  | k + 1 => by
    have ih0 := impl_leasesOk.mono_l k
    · intro y0 y1 y2 y3
      unfold impl_leasesOk.l0
      repeat' first
      | (with_reducible exact ih0 _ _ _ _)
      | (with_reducible exact LeO.refl _)
      | (with_reducible exact LeO.none _)
      | (with_reducible refine LeO.ite ?_ ?_)
      | (with_reducible refine LeO.bind ?_ (fun _ => ?_))
      | exact ih0 _ _ _ _
      | exact LeO.none _
      | refine LeO.ite ?_ ?_
      | refine LeO.bind ?_ (fun _ => ?_)
theorem impl_leasesOk.mono : ∀ a0 k, LeO (impl_leasesOk.f k a0) (impl_leasesOk.f (k + 1) a0) := by
  intro a0 k
  have ih0 := impl_leasesOk.mono_l k
  unfold impl_leasesOk.f
  repeat' first
      | (with_reducible exact ih0 _ _ _ _)
      | (with_reducible exact LeO.refl _)
      | (with_reducible exact LeO.none _)
      | (with_reducible refine LeO.ite ?_ ?_)
      | (with_reducible refine LeO.bind ?_ (fun _ => ?_))
      | exact ih0 _ _ _ _
      | exact LeO.none _
      | refine LeO.ite ?_ ?_
      | refine LeO.bind ?_ (fun _ => ?_)
set_option maxHeartbeats 8000000 in
set_option maxRecDepth 100000 in
theorem impl_leasesOk.calls (k : Nat) (A0 : Option Addr) (c0 : Nat) (l0 : List (S63)) (r : Bool) (w : World) (hr0 : Kd.C k63 w A0 l0.length l0) (hc0 : l0.length ≤ c0) (h : impl_leasesOk.f k l0 = some r) :
    Calls Try.prog 55 #[.slice A0 l0.length c0] w fun e w' => e = .returned (.bool r) ∧ Below w.heap.size w w' := by
 have hu63 := Try.underlying63
 have HR0 := A_ hr0
 have HC0 := A_ hc0
 clear hr0 hc0
 have HB := A_ (Below.refl w.heap.size w)
 have H : (impl_leasesOk.l0 k l0 l0 (l0.length : Int) 0) = some r := h
 clear h
 have H' := A_ H
 clear H
 go_enter Try.func55, Try.ntmps55
 go_wp2
 repeat (go_quiet (fail); try go_wp2)
 go_loopg [7] k (fun kq v7 w' => ∃ (x7_1 : Int), v7 = .int .i64 x7_1 ∧ Aside0 (impl_leasesOk.l0 kq l0 l0 (l0.length : Int) x7_1 = some r) ∧ Aside0 (kq ≤ k) ∧ Aside0 (Below w.heap.size w w'))
 case atStart => exact ⟨(0), s1_, H', ⟨Nat.le_refl _⟩, ⟨y1_ HB.out⟩⟩
 case round =>
  skip
  {
 clear H'
 obtain ⟨x7_1, rfl, HA, HK1, HB⟩ := hrel
 cases gk with
 | zero => exact absurd HA.out (by simp [impl_leasesOk.l0])
 | succ k1 =>
  skip
  {
 have H := HA.out
 clear HA
 simp only [impl_leasesOk.l0] at H
 by_cases c2 : x7_1 < (l0.length : Int)
 {
 rw [if_pos c2] at H
 have c2b0 : decide (x7_1 < (l0.length : Int)) = true := decide_eq_true c2
 clear c2
 by_cases c3 : 0 ≤ x7_1
 {
 rw [if_pos c3] at H
 have c3b0 : decide (0 ≤ x7_1) = true := decide_eq_true c3
 clear c3
 by_cases c4 : x7_1 < (l0.length : Int)
 {
 rw [if_pos c4] at H
 have c4b0 : decide (x7_1 < (l0.length : Int)) = true := decide_eq_true c4
 clear c4
 replace H := Option.bind_eq_some_iff.mp H
 obtain ⟨t363, A50, H⟩ := H
 replace H : (if t363 = true then ((impl_isTick.f ((rd_T63 l0 x7_1).f1)).bind fun t364 => (if t364 = true then (if x7_1 > 0 then (if 0 ≤ (wrap64 (x7_1 - 1)) then (if (wrap64 (x7_1 - 1)) < (l0.length : Int) then (if ((rd_T63 l0 (wrap64 (x7_1 - 1))).f0) ≥ ((rd_T63 l0 x7_1).f0) then (some false) else (impl_leasesOk.l0 k1 l0 l0 (l0.length : Int) (wrap64 (x7_1 + 1)))) else (none)) else (none)) else (impl_leasesOk.l0 k1 l0 l0 (l0.length : Int) (wrap64 (x7_1 + 1)))) else (some false))) else (some false)) = some r := H
 have A5 := A_ A50
 clear A50
 by_cases c6 : t363 = true
 {
 subst c6
 have H1 : ((impl_isTick.f ((rd_T63 l0 x7_1).f1)).bind fun t364 => (if t364 = true then (if x7_1 > 0 then (if 0 ≤ (wrap64 (x7_1 - 1)) then (if (wrap64 (x7_1 - 1)) < (l0.length : Int) then (if ((rd_T63 l0 (wrap64 (x7_1 - 1))).f0) ≥ ((rd_T63 l0 x7_1).f0) then (some false) else (impl_leasesOk.l0 k1 l0 l0 (l0.length : Int) (wrap64 (x7_1 + 1)))) else (none)) else (none)) else (impl_leasesOk.l0 k1 l0 l0 (l0.length : Int) (wrap64 (x7_1 + 1)))) else (some false))) = some r := by rw [if_pos rfl] at H; exact H
 clear H
 have H := H1
 clear H1
 replace H := Option.bind_eq_some_iff.mp H
 obtain ⟨t364, A70, H⟩ := H
 replace H : (if t364 = true then (if x7_1 > 0 then (if 0 ≤ (wrap64 (x7_1 - 1)) then (if (wrap64 (x7_1 - 1)) < (l0.length : Int) then (if ((rd_T63 l0 (wrap64 (x7_1 - 1))).f0) ≥ ((rd_T63 l0 x7_1).f0) then (some false) else (impl_leasesOk.l0 k1 l0 l0 (l0.length : Int) (wrap64 (x7_1 + 1)))) else (none)) else (none)) else (impl_leasesOk.l0 k1 l0 l0 (l0.length : Int) (wrap64 (x7_1 + 1)))) else (some false)) = some r := H
 have A7 := A_ A70
 clear A70
 by_cases c8 : t364 = true
 {
 subst c8
 have H1 : (if x7_1 > 0 then (if 0 ≤ (wrap64 (x7_1 - 1)) then (if (wrap64 (x7_1 - 1)) < (l0.length : Int) then (if ((rd_T63 l0 (wrap64 (x7_1 - 1))).f0) ≥ ((rd_T63 l0 x7_1).f0) then (some false) else (impl_leasesOk.l0 k1 l0 l0 (l0.length : Int) (wrap64 (x7_1 + 1)))) else (none)) else (none)) else (impl_leasesOk.l0 k1 l0 l0 (l0.length : Int) (wrap64 (x7_1 + 1)))) = some r := by rw [if_pos rfl] at H; exact H
 clear H
 have H := H1
 clear H1
 by_cases c9 : x7_1 > 0
 {
 rw [if_pos c9] at H
 have c9b0 : decide (0 < x7_1) = true := decide_eq_true c9
 clear c9
 obtain ⟨ji10, hji10⟩ : ∃ j_ : Int, (wrap64 (x7_1 - 1)) = j_ := ⟨_, rfl⟩
 replace H : (if 0 ≤ (ji10) then (if (ji10) < (l0.length : Int) then (if ((rd_T63 l0 (ji10)).f0) ≥ ((rd_T63 l0 x7_1).f0) then (some false) else (impl_leasesOk.l0 k1 l0 l0 (l0.length : Int) (wrap64 (x7_1 + 1)))) else (none)) else (none)) = some r := by first | (rw [hji10] at H; exact H) | (simp only [hji10] at H ⊢; exact H)
 (try rw [hji10] at A5)
 (try rw [hji10] at A7)
 have hji10w : (IntKind.i64.wrap (x7_1 - 1)) = ji10 := (i64_w _).trans hji10
 by_cases c11 : 0 ≤ (ji10)
 {
 rw [if_pos c11] at H
 have c11b0 : decide (0 ≤ (ji10)) = true := decide_eq_true c11
 clear c11
 by_cases c12 : (ji10) < (l0.length : Int)
 {
 rw [if_pos c12] at H
 have c12b0 : decide ((ji10) < (l0.length : Int)) = true := decide_eq_true c12
 clear c12
 by_cases c13 : ((rd_T63 l0 (ji10)).f0) ≥ ((rd_T63 l0 x7_1).f0)
 {
 rw [if_pos c13] at H
 have c13b0 : decide (((rd_T63 l0 x7_1).f0) ≤ ((rd_T63 l0 (ji10)).f0)) = true := decide_eq_true c13
 clear c13
 obtain rfl := Option.some.inj H
 have p361 : 0 ≤ (x7_1 : Int) := o1_
 have q361 : x7_1 < (l0.length : Int) := o1_
 obtain ⟨ad361, e361, hx361_0, hx361_1⟩ := at_T63 HR0.out x7_1 p361 q361
 cases e361
 replace hx361_0 := (HB.out.cell (World.block_lt_of_cell? w _ hx361_0)).trans hx361_0
 replace hx361_1 := (HB.out.cell (World.block_lt_of_cell? w _ hx361_1)).trans hx361_1
 replace p361 := eq_true p361
 replace q361 := eq_true q361
 go_wp2_with (first | ((with_reducible refine gate_dst (N := 4) rfl ?_); refine bx_ 4 #[.int .i64 0, .int .i64 0] 63 ?_; intro gb362 hg w14 hbox hb; have GW362 := b6_ hg HB; have GE362 := b6_ hg HB; replace HB := A_ (below_step (y1_ HB.out) hb); have BK362 := A_ (hbox); clear hb hbox hg; have hcz15_0 := c1_ BK362 0 (.int .i64 0); have hcz15_1 := c1_ BK362 1 (.int .i64 0); have hfz15_0 := f1_ BK362 0; have hfz15_1 := f1_ BK362 1; have p365 : 0 ≤ ((ji10) : Int) := o1_; have q365 : (ji10) < (l0.length : Int) := o1_; obtain ⟨ad365, e365, hx365_0, hx365_1⟩ := at_T63 HR0.out (ji10) p365 q365; obtain rfl : ad361 = ad365 := (by injection e365); have hn365_0 : ad361.block ≠ gb362 := Nat.ne_of_lt (Nat.lt_of_lt_of_le (by have := World.block_lt_of_cell? _ _ hx365_0; first | rwa [add_block] at this | exact this) GW362.out); have hn365_1 : ad361.block ≠ gb362 := Nat.ne_of_lt (Nat.lt_of_lt_of_le (by have := World.block_lt_of_cell? _ _ hx365_0; first | rwa [add_block] at this | exact this) GW362.out); replace hx365_0 := (HB.out.cell (World.block_lt_of_cell? w _ hx365_0)).trans hx365_0; replace hx365_1 := (HB.out.cell (World.block_lt_of_cell? w _ hx365_1)).trans hx365_1; replace hx365_0 := (cell_far (p := ⟨gb362, 0, none⟩) (by first | (rw [add_block]; exact hn365_0) | (show (Addr.add _ _).block ≠ _; rw [add_block]; exact hn365_0) | exact hn365_0) (.int .i64 ((rd_T63 l0 x7_1).f0))).trans hx365_0; replace hx365_1 := (cell_far (p := ⟨gb362, 0, none⟩) (by first | (rw [add_block]; exact hn365_0) | (show (Addr.add _ _).block ≠ _; rw [add_block]; exact hn365_0) | exact hn365_0) (.int .i64 ((rd_T63 l0 x7_1).f0))).trans hx365_1; replace hx365_0 := (cell_far (p := ⟨gb362, 1, none⟩) (by first | (rw [add_block]; exact hn365_1) | (show (Addr.add _ _).block ≠ _; rw [add_block]; exact hn365_1) | exact hn365_1) (.int .i64 ((rd_T63 l0 x7_1).f1))).trans hx365_0; replace hx365_1 := (cell_far (p := ⟨gb362, 1, none⟩) (by first | (rw [add_block]; exact hn365_1) | (show (Addr.add _ _).block ≠ _; rw [add_block]; exact hn365_1) | exact hn365_1) (.int .i64 ((rd_T63 l0 x7_1).f1))).trans hx365_1; (try have hy365_0 := fun (n_ : Nat) => (show ((((w14.drewN n_).setCell ⟨gb362, 0, none⟩ (.int .i64 ((rd_T63 l0 x7_1).f0))).setCell ⟨gb362, 1, none⟩ (.int .i64 ((rd_T63 l0 x7_1).f1)))).cell? _ = some _ from hx365_0)); (try have hy365_1 := fun (n_ : Nat) => (show ((((w14.drewN n_).setCell ⟨gb362, 0, none⟩ (.int .i64 ((rd_T63 l0 x7_1).f0))).setCell ⟨gb362, 1, none⟩ (.int .i64 ((rd_T63 l0 x7_1).f1)))).cell? _ = some _ from hx365_1)); clear hn365_0; clear hn365_1; replace p365 := eq_true p365; replace q365 := eq_true q365) | (go_at_call 54; (with_reducible refine (impl_isMember.calls ((rd_T63 l0 x7_1).f0) true _ A5.out).mono ?_); rintro e w' ⟨rfl, ⟨nd, rfl⟩⟩; (try exact d1_)) | (go_at_call 45; (with_reducible refine (impl_isTick.calls ((rd_T63 l0 x7_1).f1) true _ A7.out).mono ?_); rintro e w' ⟨rfl, ⟨nd, rfl⟩⟩; (try exact d1_)))
 repeat (go_quiet (first | ((with_reducible refine gate_dst (N := 4) rfl ?_); refine bx_ 4 #[.int .i64 0, .int .i64 0] 63 ?_; intro gb362 hg w14 hbox hb; have GW362 := b6_ hg HB; have GE362 := b6_ hg HB; replace HB := A_ (below_step (y1_ HB.out) hb); have BK362 := A_ (hbox); clear hb hbox hg; have hcz15_0 := c1_ BK362 0 (.int .i64 0); have hcz15_1 := c1_ BK362 1 (.int .i64 0); have hfz15_0 := f1_ BK362 0; have hfz15_1 := f1_ BK362 1; have p365 : 0 ≤ ((ji10) : Int) := o1_; have q365 : (ji10) < (l0.length : Int) := o1_; obtain ⟨ad365, e365, hx365_0, hx365_1⟩ := at_T63 HR0.out (ji10) p365 q365; obtain rfl : ad361 = ad365 := (by injection e365); have hn365_0 : ad361.block ≠ gb362 := Nat.ne_of_lt (Nat.lt_of_lt_of_le (by have := World.block_lt_of_cell? _ _ hx365_0; first | rwa [add_block] at this | exact this) GW362.out); have hn365_1 : ad361.block ≠ gb362 := Nat.ne_of_lt (Nat.lt_of_lt_of_le (by have := World.block_lt_of_cell? _ _ hx365_0; first | rwa [add_block] at this | exact this) GW362.out); replace hx365_0 := (HB.out.cell (World.block_lt_of_cell? w _ hx365_0)).trans hx365_0; replace hx365_1 := (HB.out.cell (World.block_lt_of_cell? w _ hx365_1)).trans hx365_1; replace hx365_0 := (cell_far (p := ⟨gb362, 0, none⟩) (by first | (rw [add_block]; exact hn365_0) | (show (Addr.add _ _).block ≠ _; rw [add_block]; exact hn365_0) | exact hn365_0) (.int .i64 ((rd_T63 l0 x7_1).f0))).trans hx365_0; replace hx365_1 := (cell_far (p := ⟨gb362, 0, none⟩) (by first | (rw [add_block]; exact hn365_0) | (show (Addr.add _ _).block ≠ _; rw [add_block]; exact hn365_0) | exact hn365_0) (.int .i64 ((rd_T63 l0 x7_1).f0))).trans hx365_1; replace hx365_0 := (cell_far (p := ⟨gb362, 1, none⟩) (by first | (rw [add_block]; exact hn365_1) | (show (Addr.add _ _).block ≠ _; rw [add_block]; exact hn365_1) | exact hn365_1) (.int .i64 ((rd_T63 l0 x7_1).f1))).trans hx365_0; replace hx365_1 := (cell_far (p := ⟨gb362, 1, none⟩) (by first | (rw [add_block]; exact hn365_1) | (show (Addr.add _ _).block ≠ _; rw [add_block]; exact hn365_1) | exact hn365_1) (.int .i64 ((rd_T63 l0 x7_1).f1))).trans hx365_1; (try have hy365_0 := fun (n_ : Nat) => (show ((((w14.drewN n_).setCell ⟨gb362, 0, none⟩ (.int .i64 ((rd_T63 l0 x7_1).f0))).setCell ⟨gb362, 1, none⟩ (.int .i64 ((rd_T63 l0 x7_1).f1)))).cell? _ = some _ from hx365_0)); (try have hy365_1 := fun (n_ : Nat) => (show ((((w14.drewN n_).setCell ⟨gb362, 0, none⟩ (.int .i64 ((rd_T63 l0 x7_1).f0))).setCell ⟨gb362, 1, none⟩ (.int .i64 ((rd_T63 l0 x7_1).f1)))).cell? _ = some _ from hx365_1)); clear hn365_0; clear hn365_1; replace p365 := eq_true p365; replace q365 := eq_true q365) | (go_at_call 54; (with_reducible refine (impl_isMember.calls ((rd_T63 l0 x7_1).f0) true _ A5.out).mono ?_); rintro e w' ⟨rfl, ⟨nd, rfl⟩⟩; (try exact d1_)) | (go_at_call 45; (with_reducible refine (impl_isTick.calls ((rd_T63 l0 x7_1).f1) true _ A7.out).mono ?_); rintro e w' ⟨rfl, ⟨nd, rfl⟩⟩; (try exact d1_))); try go_wp2_with (first | ((with_reducible refine gate_dst (N := 4) rfl ?_); refine bx_ 4 #[.int .i64 0, .int .i64 0] 63 ?_; intro gb362 hg w14 hbox hb; have GW362 := b6_ hg HB; have GE362 := b6_ hg HB; replace HB := A_ (below_step (y1_ HB.out) hb); have BK362 := A_ (hbox); clear hb hbox hg; have hcz15_0 := c1_ BK362 0 (.int .i64 0); have hcz15_1 := c1_ BK362 1 (.int .i64 0); have hfz15_0 := f1_ BK362 0; have hfz15_1 := f1_ BK362 1; have p365 : 0 ≤ ((ji10) : Int) := o1_; have q365 : (ji10) < (l0.length : Int) := o1_; obtain ⟨ad365, e365, hx365_0, hx365_1⟩ := at_T63 HR0.out (ji10) p365 q365; obtain rfl : ad361 = ad365 := (by injection e365); have hn365_0 : ad361.block ≠ gb362 := Nat.ne_of_lt (Nat.lt_of_lt_of_le (by have := World.block_lt_of_cell? _ _ hx365_0; first | rwa [add_block] at this | exact this) GW362.out); have hn365_1 : ad361.block ≠ gb362 := Nat.ne_of_lt (Nat.lt_of_lt_of_le (by have := World.block_lt_of_cell? _ _ hx365_0; first | rwa [add_block] at this | exact this) GW362.out); replace hx365_0 := (HB.out.cell (World.block_lt_of_cell? w _ hx365_0)).trans hx365_0; replace hx365_1 := (HB.out.cell (World.block_lt_of_cell? w _ hx365_1)).trans hx365_1; replace hx365_0 := (cell_far (p := ⟨gb362, 0, none⟩) (by first | (rw [add_block]; exact hn365_0) | (show (Addr.add _ _).block ≠ _; rw [add_block]; exact hn365_0) | exact hn365_0) (.int .i64 ((rd_T63 l0 x7_1).f0))).trans hx365_0; replace hx365_1 := (cell_far (p := ⟨gb362, 0, none⟩) (by first | (rw [add_block]; exact hn365_0) | (show (Addr.add _ _).block ≠ _; rw [add_block]; exact hn365_0) | exact hn365_0) (.int .i64 ((rd_T63 l0 x7_1).f0))).trans hx365_1; replace hx365_0 := (cell_far (p := ⟨gb362, 1, none⟩) (by first | (rw [add_block]; exact hn365_1) | (show (Addr.add _ _).block ≠ _; rw [add_block]; exact hn365_1) | exact hn365_1) (.int .i64 ((rd_T63 l0 x7_1).f1))).trans hx365_0; replace hx365_1 := (cell_far (p := ⟨gb362, 1, none⟩) (by first | (rw [add_block]; exact hn365_1) | (show (Addr.add _ _).block ≠ _; rw [add_block]; exact hn365_1) | exact hn365_1) (.int .i64 ((rd_T63 l0 x7_1).f1))).trans hx365_1; (try have hy365_0 := fun (n_ : Nat) => (show ((((w14.drewN n_).setCell ⟨gb362, 0, none⟩ (.int .i64 ((rd_T63 l0 x7_1).f0))).setCell ⟨gb362, 1, none⟩ (.int .i64 ((rd_T63 l0 x7_1).f1)))).cell? _ = some _ from hx365_0)); (try have hy365_1 := fun (n_ : Nat) => (show ((((w14.drewN n_).setCell ⟨gb362, 0, none⟩ (.int .i64 ((rd_T63 l0 x7_1).f0))).setCell ⟨gb362, 1, none⟩ (.int .i64 ((rd_T63 l0 x7_1).f1)))).cell? _ = some _ from hx365_1)); clear hn365_0; clear hn365_1; replace p365 := eq_true p365; replace q365 := eq_true q365) | (go_at_call 54; (with_reducible refine (impl_isMember.calls ((rd_T63 l0 x7_1).f0) true _ A5.out).mono ?_); rintro e w' ⟨rfl, ⟨nd, rfl⟩⟩; (try exact d1_)) | (go_at_call 45; (with_reducible refine (impl_isTick.calls ((rd_T63 l0 x7_1).f1) true _ A7.out).mono ?_); rintro e w' ⟨rfl, ⟨nd, rfl⟩⟩; (try exact d1_))))
 go_ret
 exact ⟨by first | rfl | (simp [errW_none, errW_some] <;> rfl) | (simp only [← hji10]; first | rfl | (simp [errW_none, errW_some] <;> rfl)) | (simp [*, errW_none, errW_some] <;> rfl), by repeat (first | (with_reducible first | exact HB.out | apply below_alloc | apply pw_below_drewN | apply below_drew1 | refine below_set ?_ GE362.out) | exact HB.out)⟩}
 {
 rw [if_neg c13] at H
 have c13b0 : decide (((rd_T63 l0 x7_1).f0) ≤ ((rd_T63 l0 (ji10)).f0)) = false := decide_eq_false c13
 clear c13
 have H' := A_ H
 clear H
 have p361 : 0 ≤ (x7_1 : Int) := o1_
 have q361 : x7_1 < (l0.length : Int) := o1_
 obtain ⟨ad361, e361, hx361_0, hx361_1⟩ := at_T63 HR0.out x7_1 p361 q361
 cases e361
 replace hx361_0 := (HB.out.cell (World.block_lt_of_cell? w _ hx361_0)).trans hx361_0
 replace hx361_1 := (HB.out.cell (World.block_lt_of_cell? w _ hx361_1)).trans hx361_1
 replace p361 := eq_true p361
 replace q361 := eq_true q361
 go_wp2_with (first | ((with_reducible refine gate_dst (N := 4) rfl ?_); refine bx_ 4 #[.int .i64 0, .int .i64 0] 63 ?_; intro gb362 hg w16 hbox hb; have GW362 := b6_ hg HB; have GE362 := b6_ hg HB; replace HB := A_ (below_step (y1_ HB.out) hb); have BK362 := A_ (hbox); clear hb hbox hg; have hcz17_0 := c1_ BK362 0 (.int .i64 0); have hcz17_1 := c1_ BK362 1 (.int .i64 0); have hfz17_0 := f1_ BK362 0; have hfz17_1 := f1_ BK362 1; have p365 : 0 ≤ ((ji10) : Int) := o1_; have q365 : (ji10) < (l0.length : Int) := o1_; obtain ⟨ad365, e365, hx365_0, hx365_1⟩ := at_T63 HR0.out (ji10) p365 q365; obtain rfl : ad361 = ad365 := (by injection e365); have hn365_0 : ad361.block ≠ gb362 := Nat.ne_of_lt (Nat.lt_of_lt_of_le (by have := World.block_lt_of_cell? _ _ hx365_0; first | rwa [add_block] at this | exact this) GW362.out); have hn365_1 : ad361.block ≠ gb362 := Nat.ne_of_lt (Nat.lt_of_lt_of_le (by have := World.block_lt_of_cell? _ _ hx365_0; first | rwa [add_block] at this | exact this) GW362.out); replace hx365_0 := (HB.out.cell (World.block_lt_of_cell? w _ hx365_0)).trans hx365_0; replace hx365_1 := (HB.out.cell (World.block_lt_of_cell? w _ hx365_1)).trans hx365_1; replace hx365_0 := (cell_far (p := ⟨gb362, 0, none⟩) (by first | (rw [add_block]; exact hn365_0) | (show (Addr.add _ _).block ≠ _; rw [add_block]; exact hn365_0) | exact hn365_0) (.int .i64 ((rd_T63 l0 x7_1).f0))).trans hx365_0; replace hx365_1 := (cell_far (p := ⟨gb362, 0, none⟩) (by first | (rw [add_block]; exact hn365_0) | (show (Addr.add _ _).block ≠ _; rw [add_block]; exact hn365_0) | exact hn365_0) (.int .i64 ((rd_T63 l0 x7_1).f0))).trans hx365_1; replace hx365_0 := (cell_far (p := ⟨gb362, 1, none⟩) (by first | (rw [add_block]; exact hn365_1) | (show (Addr.add _ _).block ≠ _; rw [add_block]; exact hn365_1) | exact hn365_1) (.int .i64 ((rd_T63 l0 x7_1).f1))).trans hx365_0; replace hx365_1 := (cell_far (p := ⟨gb362, 1, none⟩) (by first | (rw [add_block]; exact hn365_1) | (show (Addr.add _ _).block ≠ _; rw [add_block]; exact hn365_1) | exact hn365_1) (.int .i64 ((rd_T63 l0 x7_1).f1))).trans hx365_1; (try have hy365_0 := fun (n_ : Nat) => (show ((((w16.drewN n_).setCell ⟨gb362, 0, none⟩ (.int .i64 ((rd_T63 l0 x7_1).f0))).setCell ⟨gb362, 1, none⟩ (.int .i64 ((rd_T63 l0 x7_1).f1)))).cell? _ = some _ from hx365_0)); (try have hy365_1 := fun (n_ : Nat) => (show ((((w16.drewN n_).setCell ⟨gb362, 0, none⟩ (.int .i64 ((rd_T63 l0 x7_1).f0))).setCell ⟨gb362, 1, none⟩ (.int .i64 ((rd_T63 l0 x7_1).f1)))).cell? _ = some _ from hx365_1)); clear hn365_0; clear hn365_1; replace p365 := eq_true p365; replace q365 := eq_true q365) | (go_at_call 54; (with_reducible refine (impl_isMember.calls ((rd_T63 l0 x7_1).f0) true _ A5.out).mono ?_); rintro e w' ⟨rfl, ⟨nd, rfl⟩⟩; (try exact d1_)) | (go_at_call 45; (with_reducible refine (impl_isTick.calls ((rd_T63 l0 x7_1).f1) true _ A7.out).mono ?_); rintro e w' ⟨rfl, ⟨nd, rfl⟩⟩; (try exact d1_)))
 repeat (go_quiet (first | ((with_reducible refine gate_dst (N := 4) rfl ?_); refine bx_ 4 #[.int .i64 0, .int .i64 0] 63 ?_; intro gb362 hg w16 hbox hb; have GW362 := b6_ hg HB; have GE362 := b6_ hg HB; replace HB := A_ (below_step (y1_ HB.out) hb); have BK362 := A_ (hbox); clear hb hbox hg; have hcz17_0 := c1_ BK362 0 (.int .i64 0); have hcz17_1 := c1_ BK362 1 (.int .i64 0); have hfz17_0 := f1_ BK362 0; have hfz17_1 := f1_ BK362 1; have p365 : 0 ≤ ((ji10) : Int) := o1_; have q365 : (ji10) < (l0.length : Int) := o1_; obtain ⟨ad365, e365, hx365_0, hx365_1⟩ := at_T63 HR0.out (ji10) p365 q365; obtain rfl : ad361 = ad365 := (by injection e365); have hn365_0 : ad361.block ≠ gb362 := Nat.ne_of_lt (Nat.lt_of_lt_of_le (by have := World.block_lt_of_cell? _ _ hx365_0; first | rwa [add_block] at this | exact this) GW362.out); have hn365_1 : ad361.block ≠ gb362 := Nat.ne_of_lt (Nat.lt_of_lt_of_le (by have := World.block_lt_of_cell? _ _ hx365_0; first | rwa [add_block] at this | exact this) GW362.out); replace hx365_0 := (HB.out.cell (World.block_lt_of_cell? w _ hx365_0)).trans hx365_0; replace hx365_1 := (HB.out.cell (World.block_lt_of_cell? w _ hx365_1)).trans hx365_1; replace hx365_0 := (cell_far (p := ⟨gb362, 0, none⟩) (by first | (rw [add_block]; exact hn365_0) | (show (Addr.add _ _).block ≠ _; rw [add_block]; exact hn365_0) | exact hn365_0) (.int .i64 ((rd_T63 l0 x7_1).f0))).trans hx365_0; replace hx365_1 := (cell_far (p := ⟨gb362, 0, none⟩) (by first | (rw [add_block]; exact hn365_0) | (show (Addr.add _ _).block ≠ _; rw [add_block]; exact hn365_0) | exact hn365_0) (.int .i64 ((rd_T63 l0 x7_1).f0))).trans hx365_1; replace hx365_0 := (cell_far (p := ⟨gb362, 1, none⟩) (by first | (rw [add_block]; exact hn365_1) | (show (Addr.add _ _).block ≠ _; rw [add_block]; exact hn365_1) | exact hn365_1) (.int .i64 ((rd_T63 l0 x7_1).f1))).trans hx365_0; replace hx365_1 := (cell_far (p := ⟨gb362, 1, none⟩) (by first | (rw [add_block]; exact hn365_1) | (show (Addr.add _ _).block ≠ _; rw [add_block]; exact hn365_1) | exact hn365_1) (.int .i64 ((rd_T63 l0 x7_1).f1))).trans hx365_1; (try have hy365_0 := fun (n_ : Nat) => (show ((((w16.drewN n_).setCell ⟨gb362, 0, none⟩ (.int .i64 ((rd_T63 l0 x7_1).f0))).setCell ⟨gb362, 1, none⟩ (.int .i64 ((rd_T63 l0 x7_1).f1)))).cell? _ = some _ from hx365_0)); (try have hy365_1 := fun (n_ : Nat) => (show ((((w16.drewN n_).setCell ⟨gb362, 0, none⟩ (.int .i64 ((rd_T63 l0 x7_1).f0))).setCell ⟨gb362, 1, none⟩ (.int .i64 ((rd_T63 l0 x7_1).f1)))).cell? _ = some _ from hx365_1)); clear hn365_0; clear hn365_1; replace p365 := eq_true p365; replace q365 := eq_true q365) | (go_at_call 54; (with_reducible refine (impl_isMember.calls ((rd_T63 l0 x7_1).f0) true _ A5.out).mono ?_); rintro e w' ⟨rfl, ⟨nd, rfl⟩⟩; (try exact d1_)) | (go_at_call 45; (with_reducible refine (impl_isTick.calls ((rd_T63 l0 x7_1).f1) true _ A7.out).mono ?_); rintro e w' ⟨rfl, ⟨nd, rfl⟩⟩; (try exact d1_))); try go_wp2_with (first | ((with_reducible refine gate_dst (N := 4) rfl ?_); refine bx_ 4 #[.int .i64 0, .int .i64 0] 63 ?_; intro gb362 hg w16 hbox hb; have GW362 := b6_ hg HB; have GE362 := b6_ hg HB; replace HB := A_ (below_step (y1_ HB.out) hb); have BK362 := A_ (hbox); clear hb hbox hg; have hcz17_0 := c1_ BK362 0 (.int .i64 0); have hcz17_1 := c1_ BK362 1 (.int .i64 0); have hfz17_0 := f1_ BK362 0; have hfz17_1 := f1_ BK362 1; have p365 : 0 ≤ ((ji10) : Int) := o1_; have q365 : (ji10) < (l0.length : Int) := o1_; obtain ⟨ad365, e365, hx365_0, hx365_1⟩ := at_T63 HR0.out (ji10) p365 q365; obtain rfl : ad361 = ad365 := (by injection e365); have hn365_0 : ad361.block ≠ gb362 := Nat.ne_of_lt (Nat.lt_of_lt_of_le (by have := World.block_lt_of_cell? _ _ hx365_0; first | rwa [add_block] at this | exact this) GW362.out); have hn365_1 : ad361.block ≠ gb362 := Nat.ne_of_lt (Nat.lt_of_lt_of_le (by have := World.block_lt_of_cell? _ _ hx365_0; first | rwa [add_block] at this | exact this) GW362.out); replace hx365_0 := (HB.out.cell (World.block_lt_of_cell? w _ hx365_0)).trans hx365_0; replace hx365_1 := (HB.out.cell (World.block_lt_of_cell? w _ hx365_1)).trans hx365_1; replace hx365_0 := (cell_far (p := ⟨gb362, 0, none⟩) (by first | (rw [add_block]; exact hn365_0) | (show (Addr.add _ _).block ≠ _; rw [add_block]; exact hn365_0) | exact hn365_0) (.int .i64 ((rd_T63 l0 x7_1).f0))).trans hx365_0; replace hx365_1 := (cell_far (p := ⟨gb362, 0, none⟩) (by first | (rw [add_block]; exact hn365_0) | (show (Addr.add _ _).block ≠ _; rw [add_block]; exact hn365_0) | exact hn365_0) (.int .i64 ((rd_T63 l0 x7_1).f0))).trans hx365_1; replace hx365_0 := (cell_far (p := ⟨gb362, 1, none⟩) (by first | (rw [add_block]; exact hn365_1) | (show (Addr.add _ _).block ≠ _; rw [add_block]; exact hn365_1) | exact hn365_1) (.int .i64 ((rd_T63 l0 x7_1).f1))).trans hx365_0; replace hx365_1 := (cell_far (p := ⟨gb362, 1, none⟩) (by first | (rw [add_block]; exact hn365_1) | (show (Addr.add _ _).block ≠ _; rw [add_block]; exact hn365_1) | exact hn365_1) (.int .i64 ((rd_T63 l0 x7_1).f1))).trans hx365_1; (try have hy365_0 := fun (n_ : Nat) => (show ((((w16.drewN n_).setCell ⟨gb362, 0, none⟩ (.int .i64 ((rd_T63 l0 x7_1).f0))).setCell ⟨gb362, 1, none⟩ (.int .i64 ((rd_T63 l0 x7_1).f1)))).cell? _ = some _ from hx365_0)); (try have hy365_1 := fun (n_ : Nat) => (show ((((w16.drewN n_).setCell ⟨gb362, 0, none⟩ (.int .i64 ((rd_T63 l0 x7_1).f0))).setCell ⟨gb362, 1, none⟩ (.int .i64 ((rd_T63 l0 x7_1).f1)))).cell? _ = some _ from hx365_1)); clear hn365_0; clear hn365_1; replace p365 := eq_true p365; replace q365 := eq_true q365) | (go_at_call 54; (with_reducible refine (impl_isMember.calls ((rd_T63 l0 x7_1).f0) true _ A5.out).mono ?_); rintro e w' ⟨rfl, ⟨nd, rfl⟩⟩; (try exact d1_)) | (go_at_call 45; (with_reducible refine (impl_isTick.calls ((rd_T63 l0 x7_1).f1) true _ A7.out).mono ?_); rintro e w' ⟨rfl, ⟨nd, rfl⟩⟩; (try exact d1_))))
 go_roundg k1
 case measure => have := HK1.out; omega
 case rel => exact ⟨(wrap64 (x7_1 + 1)), s1_, H', ⟨by have := HK1.out; omega⟩, ⟨by repeat (first | (with_reducible first | exact HB.out | apply below_alloc | apply pw_below_drewN | apply below_drew1 | refine below_set ?_ GE362.out) | exact HB.out)⟩⟩}}
 {
 rw [if_neg c12] at H
 exact absurd H (by simp)}}
 {
 rw [if_neg c11] at H
 exact absurd H (by simp)}}
 {
 rw [if_neg c9] at H
 have c9b0 : decide (0 < x7_1) = false := decide_eq_false c9
 clear c9
 have H' := A_ H
 clear H
 have p361 : 0 ≤ (x7_1 : Int) := o1_
 have q361 : x7_1 < (l0.length : Int) := o1_
 obtain ⟨ad361, e361, hx361_0, hx361_1⟩ := at_T63 HR0.out x7_1 p361 q361
 cases e361
 replace hx361_0 := (HB.out.cell (World.block_lt_of_cell? w _ hx361_0)).trans hx361_0
 replace hx361_1 := (HB.out.cell (World.block_lt_of_cell? w _ hx361_1)).trans hx361_1
 replace p361 := eq_true p361
 replace q361 := eq_true q361
 go_wp2_with (first | ((with_reducible refine gate_dst (N := 4) rfl ?_); refine bx_ 4 #[.int .i64 0, .int .i64 0] 63 ?_; intro gb362 hg w18 hbox hb; have GW362 := b6_ hg HB; have GE362 := b6_ hg HB; replace HB := A_ (below_step (y1_ HB.out) hb); have BK362 := A_ (hbox); clear hb hbox hg; have hcz19_0 := c1_ BK362 0 (.int .i64 0); have hcz19_1 := c1_ BK362 1 (.int .i64 0); have hfz19_0 := f1_ BK362 0; have hfz19_1 := f1_ BK362 1) | (go_at_call 54; (with_reducible refine (impl_isMember.calls ((rd_T63 l0 x7_1).f0) true _ A5.out).mono ?_); rintro e w' ⟨rfl, ⟨nd, rfl⟩⟩; (try exact d1_)) | (go_at_call 45; (with_reducible refine (impl_isTick.calls ((rd_T63 l0 x7_1).f1) true _ A7.out).mono ?_); rintro e w' ⟨rfl, ⟨nd, rfl⟩⟩; (try exact d1_)))
 repeat (go_quiet (first | ((with_reducible refine gate_dst (N := 4) rfl ?_); refine bx_ 4 #[.int .i64 0, .int .i64 0] 63 ?_; intro gb362 hg w18 hbox hb; have GW362 := b6_ hg HB; have GE362 := b6_ hg HB; replace HB := A_ (below_step (y1_ HB.out) hb); have BK362 := A_ (hbox); clear hb hbox hg; have hcz19_0 := c1_ BK362 0 (.int .i64 0); have hcz19_1 := c1_ BK362 1 (.int .i64 0); have hfz19_0 := f1_ BK362 0; have hfz19_1 := f1_ BK362 1) | (go_at_call 54; (with_reducible refine (impl_isMember.calls ((rd_T63 l0 x7_1).f0) true _ A5.out).mono ?_); rintro e w' ⟨rfl, ⟨nd, rfl⟩⟩; (try exact d1_)) | (go_at_call 45; (with_reducible refine (impl_isTick.calls ((rd_T63 l0 x7_1).f1) true _ A7.out).mono ?_); rintro e w' ⟨rfl, ⟨nd, rfl⟩⟩; (try exact d1_))); try go_wp2_with (first | ((with_reducible refine gate_dst (N := 4) rfl ?_); refine bx_ 4 #[.int .i64 0, .int .i64 0] 63 ?_; intro gb362 hg w18 hbox hb; have GW362 := b6_ hg HB; have GE362 := b6_ hg HB; replace HB := A_ (below_step (y1_ HB.out) hb); have BK362 := A_ (hbox); clear hb hbox hg; have hcz19_0 := c1_ BK362 0 (.int .i64 0); have hcz19_1 := c1_ BK362 1 (.int .i64 0); have hfz19_0 := f1_ BK362 0; have hfz19_1 := f1_ BK362 1) | (go_at_call 54; (with_reducible refine (impl_isMember.calls ((rd_T63 l0 x7_1).f0) true _ A5.out).mono ?_); rintro e w' ⟨rfl, ⟨nd, rfl⟩⟩; (try exact d1_)) | (go_at_call 45; (with_reducible refine (impl_isTick.calls ((rd_T63 l0 x7_1).f1) true _ A7.out).mono ?_); rintro e w' ⟨rfl, ⟨nd, rfl⟩⟩; (try exact d1_))))
 go_roundg k1
 case measure => have := HK1.out; omega
 case rel => exact ⟨(wrap64 (x7_1 + 1)), s1_, H', ⟨by have := HK1.out; omega⟩, ⟨by repeat (first | (with_reducible first | exact HB.out | apply below_alloc | apply pw_below_drewN | apply below_drew1 | refine below_set ?_ GE362.out) | exact HB.out)⟩⟩}}
 {
 replace c8 := Bool.eq_false_iff.mpr c8
 subst c8
 have H1 : (some false) = some r := by rw [if_neg (show ¬ (false = true) by decide)] at H; exact H
 clear H
 have H := H1
 clear H1
 obtain rfl := Option.some.inj H
 have p361 : 0 ≤ (x7_1 : Int) := o1_
 have q361 : x7_1 < (l0.length : Int) := o1_
 obtain ⟨ad361, e361, hx361_0, hx361_1⟩ := at_T63 HR0.out x7_1 p361 q361
 cases e361
 replace hx361_0 := (HB.out.cell (World.block_lt_of_cell? w _ hx361_0)).trans hx361_0
 replace hx361_1 := (HB.out.cell (World.block_lt_of_cell? w _ hx361_1)).trans hx361_1
 replace p361 := eq_true p361
 replace q361 := eq_true q361
 go_wp2_with (first | ((with_reducible refine gate_dst (N := 4) rfl ?_); refine bx_ 4 #[.int .i64 0, .int .i64 0] 63 ?_; intro gb362 hg w20 hbox hb; have GW362 := b6_ hg HB; have GE362 := b6_ hg HB; replace HB := A_ (below_step (y1_ HB.out) hb); have BK362 := A_ (hbox); clear hb hbox hg; have hcz21_0 := c1_ BK362 0 (.int .i64 0); have hcz21_1 := c1_ BK362 1 (.int .i64 0); have hfz21_0 := f1_ BK362 0; have hfz21_1 := f1_ BK362 1) | (go_at_call 54; (with_reducible refine (impl_isMember.calls ((rd_T63 l0 x7_1).f0) true _ A5.out).mono ?_); rintro e w' ⟨rfl, ⟨nd, rfl⟩⟩; (try exact d1_)) | (go_at_call 45; (with_reducible refine (impl_isTick.calls ((rd_T63 l0 x7_1).f1) false _ A7.out).mono ?_); rintro e w' ⟨rfl, ⟨nd, rfl⟩⟩; (try exact d1_)))
 repeat (go_quiet (first | ((with_reducible refine gate_dst (N := 4) rfl ?_); refine bx_ 4 #[.int .i64 0, .int .i64 0] 63 ?_; intro gb362 hg w20 hbox hb; have GW362 := b6_ hg HB; have GE362 := b6_ hg HB; replace HB := A_ (below_step (y1_ HB.out) hb); have BK362 := A_ (hbox); clear hb hbox hg; have hcz21_0 := c1_ BK362 0 (.int .i64 0); have hcz21_1 := c1_ BK362 1 (.int .i64 0); have hfz21_0 := f1_ BK362 0; have hfz21_1 := f1_ BK362 1) | (go_at_call 54; (with_reducible refine (impl_isMember.calls ((rd_T63 l0 x7_1).f0) true _ A5.out).mono ?_); rintro e w' ⟨rfl, ⟨nd, rfl⟩⟩; (try exact d1_)) | (go_at_call 45; (with_reducible refine (impl_isTick.calls ((rd_T63 l0 x7_1).f1) false _ A7.out).mono ?_); rintro e w' ⟨rfl, ⟨nd, rfl⟩⟩; (try exact d1_))); try go_wp2_with (first | ((with_reducible refine gate_dst (N := 4) rfl ?_); refine bx_ 4 #[.int .i64 0, .int .i64 0] 63 ?_; intro gb362 hg w20 hbox hb; have GW362 := b6_ hg HB; have GE362 := b6_ hg HB; replace HB := A_ (below_step (y1_ HB.out) hb); have BK362 := A_ (hbox); clear hb hbox hg; have hcz21_0 := c1_ BK362 0 (.int .i64 0); have hcz21_1 := c1_ BK362 1 (.int .i64 0); have hfz21_0 := f1_ BK362 0; have hfz21_1 := f1_ BK362 1) | (go_at_call 54; (with_reducible refine (impl_isMember.calls ((rd_T63 l0 x7_1).f0) true _ A5.out).mono ?_); rintro e w' ⟨rfl, ⟨nd, rfl⟩⟩; (try exact d1_)) | (go_at_call 45; (with_reducible refine (impl_isTick.calls ((rd_T63 l0 x7_1).f1) false _ A7.out).mono ?_); rintro e w' ⟨rfl, ⟨nd, rfl⟩⟩; (try exact d1_))))
 go_ret
 exact ⟨e1_, by repeat (first | (with_reducible first | exact HB.out | apply below_alloc | apply pw_below_drewN | apply below_drew1 | refine below_set ?_ GE362.out) | exact HB.out)⟩}}
 {
 replace c6 := Bool.eq_false_iff.mpr c6
 subst c6
 have H1 : (some false) = some r := by rw [if_neg (show ¬ (false = true) by decide)] at H; exact H
 clear H
 have H := H1
 clear H1
 obtain rfl := Option.some.inj H
 have p361 : 0 ≤ (x7_1 : Int) := o1_
 have q361 : x7_1 < (l0.length : Int) := o1_
 obtain ⟨ad361, e361, hx361_0, hx361_1⟩ := at_T63 HR0.out x7_1 p361 q361
 cases e361
 replace hx361_0 := (HB.out.cell (World.block_lt_of_cell? w _ hx361_0)).trans hx361_0
 replace hx361_1 := (HB.out.cell (World.block_lt_of_cell? w _ hx361_1)).trans hx361_1
 replace p361 := eq_true p361
 replace q361 := eq_true q361
 go_wp2_with (first | ((with_reducible refine gate_dst (N := 4) rfl ?_); refine bx_ 4 #[.int .i64 0, .int .i64 0] 63 ?_; intro gb362 hg w22 hbox hb; have GW362 := b6_ hg HB; have GE362 := b6_ hg HB; replace HB := A_ (below_step (y1_ HB.out) hb); have BK362 := A_ (hbox); clear hb hbox hg; have hcz23_0 := c1_ BK362 0 (.int .i64 0); have hcz23_1 := c1_ BK362 1 (.int .i64 0); have hfz23_0 := f1_ BK362 0; have hfz23_1 := f1_ BK362 1) | (go_at_call 54; (with_reducible refine (impl_isMember.calls ((rd_T63 l0 x7_1).f0) false _ A5.out).mono ?_); rintro e w' ⟨rfl, ⟨nd, rfl⟩⟩; (try exact d1_)))
 repeat (go_quiet (first | ((with_reducible refine gate_dst (N := 4) rfl ?_); refine bx_ 4 #[.int .i64 0, .int .i64 0] 63 ?_; intro gb362 hg w22 hbox hb; have GW362 := b6_ hg HB; have GE362 := b6_ hg HB; replace HB := A_ (below_step (y1_ HB.out) hb); have BK362 := A_ (hbox); clear hb hbox hg; have hcz23_0 := c1_ BK362 0 (.int .i64 0); have hcz23_1 := c1_ BK362 1 (.int .i64 0); have hfz23_0 := f1_ BK362 0; have hfz23_1 := f1_ BK362 1) | (go_at_call 54; (with_reducible refine (impl_isMember.calls ((rd_T63 l0 x7_1).f0) false _ A5.out).mono ?_); rintro e w' ⟨rfl, ⟨nd, rfl⟩⟩; (try exact d1_))); try go_wp2_with (first | ((with_reducible refine gate_dst (N := 4) rfl ?_); refine bx_ 4 #[.int .i64 0, .int .i64 0] 63 ?_; intro gb362 hg w22 hbox hb; have GW362 := b6_ hg HB; have GE362 := b6_ hg HB; replace HB := A_ (below_step (y1_ HB.out) hb); have BK362 := A_ (hbox); clear hb hbox hg; have hcz23_0 := c1_ BK362 0 (.int .i64 0); have hcz23_1 := c1_ BK362 1 (.int .i64 0); have hfz23_0 := f1_ BK362 0; have hfz23_1 := f1_ BK362 1) | (go_at_call 54; (with_reducible refine (impl_isMember.calls ((rd_T63 l0 x7_1).f0) false _ A5.out).mono ?_); rintro e w' ⟨rfl, ⟨nd, rfl⟩⟩; (try exact d1_))))
 go_ret
 exact ⟨e1_, by repeat (first | (with_reducible first | exact HB.out | apply below_alloc | apply pw_below_drewN | apply below_drew1 | refine below_set ?_ GE362.out) | exact HB.out)⟩}}
 {
 rw [if_neg c4] at H
 exact absurd H (by simp)}}
 {
 rw [if_neg c3] at H
 exact absurd H (by simp)}}
 {
 rw [if_neg c2] at H
 have c2b0 : decide (x7_1 < (l0.length : Int)) = false := decide_eq_false c2
 clear c2
 obtain rfl := Option.some.inj H
 go_wp2
 repeat (go_quiet (fail); try go_wp2)
 go_ret
 exact ⟨e1_, y1_ HB.out⟩}}}

/-! ### impl_ValidPresence: function 19 -/
abbrev impl_ValidPresence.T : Bool := true
abbrev impl_ValidPresence.F : Bool := false
def impl_ValidPresence.l0 : Nat → List (S73) → Int → Int → List (S63) → List (S63) → List (S73) → Option (Bool)
  | 0, _, _, _, _, _, _ => none
  | k + 1, x6, x7, x8, x367000, x367001, x367002 => if x8 < x7 then (if 0 ≤ x8 then (if x8 < (x6.length : Int) then ((impl_isMember.f ((rd_T73 x6 x8).f0)).bind fun t371 => (if t371 = true then ((impl_in.f ((rd_T73 x6 x8).f1) 0 1000000000).bind fun t372 => (if t372 = true then (if x8 > 0 then (if 0 ≤ (wrap64 (x8 - 1)) then (if (wrap64 (x8 - 1)) < (x367002.length : Int) then (if ((rd_T73 x367002 (wrap64 (x8 - 1))).f0) ≥ ((rd_T73 x6 x8).f0) then (some false) else (impl_ValidPresence.l0 k x6 x7 (wrap64 (x8 + 1)) x367000 x367001 x367002)) else (none)) else (none)) else (impl_ValidPresence.l0 k x6 x7 (wrap64 (x8 + 1)) x367000 x367001 x367002)) else (some false))) else (some false))) else (none)) else (none)) else ((impl_leasesOk.f k x367000).bind fun t367 => (if t367 = true then ((impl_leasesOk.f k x367001).bind fun t368 => (if t368 = true then (some (decide ((x367002.length : Int) ≤ 30))) else (some false))) else (some false)))
def impl_ValidPresence.f (k : Nat) (l0_0 : List (S63)) (l0_1 : List (S63)) (l0_2 : List (S73)) : Option (Bool) := impl_ValidPresence.l0 k l0_2 (l0_2.length : Int) 0 l0_0 l0_1 l0_2
theorem impl_ValidPresence.mono_l : ∀ k, (∀ y0 y1 y2 y3 y4 y5, LeO (impl_ValidPresence.l0 k y0 y1 y2 y3 y4 y5) (impl_ValidPresence.l0 (k + 1) y0 y1 y2 y3 y4 y5))
  | 0 => fun _ _ _ _ _ _ r h => by simp [impl_ValidPresence.l0] at h
  | k + 1 => by
    have ih0 := impl_ValidPresence.mono_l k
    · intro y0 y1 y2 y3 y4 y5
      unfold impl_ValidPresence.l0
      repeat' first
      | (with_reducible exact ih0 _ _ _ _ _ _)
      | (with_reducible exact impl_leasesOk.mono _ _)
      | (with_reducible exact LeO.refl _)
      | (with_reducible exact LeO.none _)
      | (with_reducible refine LeO.ite ?_ ?_)
      | (with_reducible refine LeO.bind ?_ (fun _ => ?_))
      | exact ih0 _ _ _ _ _ _
      | exact impl_leasesOk.mono _ _
      | exact LeO.none _
      | refine LeO.ite ?_ ?_
      | refine LeO.bind ?_ (fun _ => ?_)
theorem impl_ValidPresence.mono : ∀ a0 a1 a2 k, LeO (impl_ValidPresence.f k a0 a1 a2) (impl_ValidPresence.f (k + 1) a0 a1 a2) := by
  intro a0 a1 a2 k
  have ih0 := impl_ValidPresence.mono_l k
  unfold impl_ValidPresence.f
  repeat' first
      | (with_reducible exact ih0 _ _ _ _ _ _)
      | (with_reducible exact impl_leasesOk.mono _ _)
      | (with_reducible exact LeO.refl _)
      | (with_reducible exact LeO.none _)
      | (with_reducible refine LeO.ite ?_ ?_)
      | (with_reducible refine LeO.bind ?_ (fun _ => ?_))
      | exact ih0 _ _ _ _ _ _
      | exact impl_leasesOk.mono _ _
      | exact LeO.none _
      | refine LeO.ite ?_ ?_
      | refine LeO.bind ?_ (fun _ => ?_)
set_option maxHeartbeats 8000000 in
set_option maxRecDepth 100000 in
theorem impl_ValidPresence.calls (k : Nat) (A0_0 : Option Addr) (c0_0 : Nat) (l0_0 : List (S63)) (A0_1 : Option Addr) (c0_1 : Nat) (l0_1 : List (S63)) (A0_2 : Option Addr) (c0_2 : Nat) (l0_2 : List (S73)) (r : Bool) (w : World) (hr0_0 : Kd.C k63 w A0_0 l0_0.length l0_0) (hc0_0 : l0_0.length ≤ c0_0) (hr0_1 : Kd.C k63 w A0_1 l0_1.length l0_1) (hc0_1 : l0_1.length ≤ c0_1) (hr0_2 : Kd.C k73 w A0_2 l0_2.length l0_2) (hc0_2 : l0_2.length ≤ c0_2) (h : impl_ValidPresence.f k l0_0 l0_1 l0_2 = some r) :
    Calls Try.prog 19 #[.agg #[.slice A0_0 l0_0.length c0_0, .slice A0_1 l0_1.length c0_1, .slice A0_2 l0_2.length c0_2]] w fun e w' => e = .returned (.bool r) ∧ Below w.heap.size w w' := by
 have hu27 := Try.underlying27
 have hu73 := Try.underlying73
 have HR0_0 := A_ hr0_0
 have HC0_0 := A_ hc0_0
 clear hr0_0 hc0_0
 have HR0_1 := A_ hr0_1
 have HC0_1 := A_ hc0_1
 clear hr0_1 hc0_1
 have HR0_2 := A_ hr0_2
 have HC0_2 := A_ hc0_2
 clear hr0_2 hc0_2
 have HB := A_ (Below.refl w.heap.size w)
 have H : (impl_ValidPresence.l0 k l0_2 (l0_2.length : Int) 0 l0_0 l0_1 l0_2) = some r := h
 clear h
 have H' := A_ H
 clear H
 go_enter Try.func19, Try.ntmps19
 go_wp2_with (first | ((with_reducible refine gate_dst (N := 1) rfl ?_); (try (refine gate_guard (by rfl) ?_; dsimp only)); refine bx_ 1 #[.slice A0_0 l0_0.length c0_0, .slice A0_1 l0_1.length c0_1, .slice A0_2 l0_2.length c0_2] 27 ?_; intro gb366 hg w2 hbox hb; have GW366 := b6_ hg HB; have GE366 := b6_ hg HB; replace HB := A_ (below_step (y1_ HB.out) hb); have BK366 := A_ (hbox); clear hb hbox hg; have hcz3_0 := c1_ BK366 0 (.slice A0_0 l0_0.length c0_0); have hcz3_1 := c1_ BK366 1 (.slice A0_1 l0_1.length c0_1); have hcz3_2 := c1_ BK366 2 (.slice A0_2 l0_2.length c0_2); have hfz3_0 := f1_ BK366 0; have hfz3_1 := f1_ BK366 1; have hfz3_2 := f1_ BK366 2))
 repeat (go_quiet (first | ((with_reducible refine gate_dst (N := 1) rfl ?_); (try (refine gate_guard (by rfl) ?_; dsimp only)); refine bx_ 1 #[.slice A0_0 l0_0.length c0_0, .slice A0_1 l0_1.length c0_1, .slice A0_2 l0_2.length c0_2] 27 ?_; intro gb366 hg w2 hbox hb; have GW366 := b6_ hg HB; have GE366 := b6_ hg HB; replace HB := A_ (below_step (y1_ HB.out) hb); have BK366 := A_ (hbox); clear hb hbox hg; have hcz3_0 := c1_ BK366 0 (.slice A0_0 l0_0.length c0_0); have hcz3_1 := c1_ BK366 1 (.slice A0_1 l0_1.length c0_1); have hcz3_2 := c1_ BK366 2 (.slice A0_2 l0_2.length c0_2); have hfz3_0 := f1_ BK366 0; have hfz3_1 := f1_ BK366 1; have hfz3_2 := f1_ BK366 2)); try go_wp2_with (first | ((with_reducible refine gate_dst (N := 1) rfl ?_); (try (refine gate_guard (by rfl) ?_; dsimp only)); refine bx_ 1 #[.slice A0_0 l0_0.length c0_0, .slice A0_1 l0_1.length c0_1, .slice A0_2 l0_2.length c0_2] 27 ?_; intro gb366 hg w2 hbox hb; have GW366 := b6_ hg HB; have GE366 := b6_ hg HB; replace HB := A_ (below_step (y1_ HB.out) hb); have BK366 := A_ (hbox); clear hb hbox hg; have hcz3_0 := c1_ BK366 0 (.slice A0_0 l0_0.length c0_0); have hcz3_1 := c1_ BK366 1 (.slice A0_1 l0_1.length c0_1); have hcz3_2 := c1_ BK366 2 (.slice A0_2 l0_2.length c0_2); have hfz3_0 := f1_ BK366 0; have hfz3_1 := f1_ BK366 1; have hfz3_2 := f1_ BK366 2)))
 go_loopg [8] k (fun kq v8 w' => ∃ (x8_1 : Int), v8 = .int .i64 x8_1 ∧ Aside0 (impl_ValidPresence.l0 kq l0_2 (l0_2.length : Int) x8_1 l0_0 l0_1 l0_2 = some r) ∧ Aside0 (kq ≤ k) ∧ Aside0 (w'.heap[gb366]? = some (.cells #[(.slice A0_0 l0_0.length c0_0), (.slice A0_1 l0_1.length c0_1), (.slice A0_2 l0_2.length c0_2)] 27 (0, 0))) ∧ Aside0 (Below w.heap.size w w'))
 case atStart => exact ⟨(0), s1_, H', ⟨Nat.le_refl _⟩, ⟨b1_ BK366.out⟩, ⟨y1_ HB.out⟩⟩
 case round =>
  skip
  {
 clear H'
 try clear c1
 try clear p2
 try clear hcz3_0
 try clear hcz3_1
 try clear hcz3_2
 try clear hfz3_0
 try clear hfz3_1
 try clear hfz3_2
 obtain ⟨x8_1, rfl, HA, HK1, BK366, HB⟩ := hrel
 cases gk with
 | zero => exact absurd HA.out (by simp [impl_ValidPresence.l0])
 | succ k1 =>
  skip
  {
 have H := HA.out
 clear HA
 simp only [impl_ValidPresence.l0] at H
 by_cases c4 : x8_1 < (l0_2.length : Int)
 {
 rw [if_pos c4] at H
 have c4b0 : decide (x8_1 < (l0_2.length : Int)) = true := decide_eq_true c4
 clear c4
 by_cases c5 : 0 ≤ x8_1
 {
 rw [if_pos c5] at H
 have c5b0 : decide (0 ≤ x8_1) = true := decide_eq_true c5
 clear c5
 by_cases c6 : x8_1 < (l0_2.length : Int)
 {
 rw [if_pos c6] at H
 have c6b0 : decide (x8_1 < (l0_2.length : Int)) = true := decide_eq_true c6
 clear c6
 replace H := Option.bind_eq_some_iff.mp H
 obtain ⟨t371, A70, H⟩ := H
 replace H : (if t371 = true then ((impl_in.f ((rd_T73 l0_2 x8_1).f1) 0 1000000000).bind fun t372 => (if t372 = true then (if x8_1 > 0 then (if 0 ≤ (wrap64 (x8_1 - 1)) then (if (wrap64 (x8_1 - 1)) < (l0_2.length : Int) then (if ((rd_T73 l0_2 (wrap64 (x8_1 - 1))).f0) ≥ ((rd_T73 l0_2 x8_1).f0) then (some false) else (impl_ValidPresence.l0 k1 l0_2 (l0_2.length : Int) (wrap64 (x8_1 + 1)) l0_0 l0_1 l0_2)) else (none)) else (none)) else (impl_ValidPresence.l0 k1 l0_2 (l0_2.length : Int) (wrap64 (x8_1 + 1)) l0_0 l0_1 l0_2)) else (some false))) else (some false)) = some r := H
 have A7 := A_ A70
 clear A70
 by_cases c8 : t371 = true
 {
 subst c8
 have H1 : ((impl_in.f ((rd_T73 l0_2 x8_1).f1) 0 1000000000).bind fun t372 => (if t372 = true then (if x8_1 > 0 then (if 0 ≤ (wrap64 (x8_1 - 1)) then (if (wrap64 (x8_1 - 1)) < (l0_2.length : Int) then (if ((rd_T73 l0_2 (wrap64 (x8_1 - 1))).f0) ≥ ((rd_T73 l0_2 x8_1).f0) then (some false) else (impl_ValidPresence.l0 k1 l0_2 (l0_2.length : Int) (wrap64 (x8_1 + 1)) l0_0 l0_1 l0_2)) else (none)) else (none)) else (impl_ValidPresence.l0 k1 l0_2 (l0_2.length : Int) (wrap64 (x8_1 + 1)) l0_0 l0_1 l0_2)) else (some false))) = some r := by rw [if_pos rfl] at H; exact H
 clear H
 have H := H1
 clear H1
 replace H := Option.bind_eq_some_iff.mp H
 obtain ⟨t372, A90, H⟩ := H
 replace H : (if t372 = true then (if x8_1 > 0 then (if 0 ≤ (wrap64 (x8_1 - 1)) then (if (wrap64 (x8_1 - 1)) < (l0_2.length : Int) then (if ((rd_T73 l0_2 (wrap64 (x8_1 - 1))).f0) ≥ ((rd_T73 l0_2 x8_1).f0) then (some false) else (impl_ValidPresence.l0 k1 l0_2 (l0_2.length : Int) (wrap64 (x8_1 + 1)) l0_0 l0_1 l0_2)) else (none)) else (none)) else (impl_ValidPresence.l0 k1 l0_2 (l0_2.length : Int) (wrap64 (x8_1 + 1)) l0_0 l0_1 l0_2)) else (some false)) = some r := H
 have A9 := A_ A90
 clear A90
 by_cases c10 : t372 = true
 {
 subst c10
 have H1 : (if x8_1 > 0 then (if 0 ≤ (wrap64 (x8_1 - 1)) then (if (wrap64 (x8_1 - 1)) < (l0_2.length : Int) then (if ((rd_T73 l0_2 (wrap64 (x8_1 - 1))).f0) ≥ ((rd_T73 l0_2 x8_1).f0) then (some false) else (impl_ValidPresence.l0 k1 l0_2 (l0_2.length : Int) (wrap64 (x8_1 + 1)) l0_0 l0_1 l0_2)) else (none)) else (none)) else (impl_ValidPresence.l0 k1 l0_2 (l0_2.length : Int) (wrap64 (x8_1 + 1)) l0_0 l0_1 l0_2)) = some r := by rw [if_pos rfl] at H; exact H
 clear H
 have H := H1
 clear H1
 by_cases c11 : x8_1 > 0
 {
 rw [if_pos c11] at H
 have c11b0 : decide (0 < x8_1) = true := decide_eq_true c11
 clear c11
 obtain ⟨ji12, hji12⟩ : ∃ j_ : Int, (wrap64 (x8_1 - 1)) = j_ := ⟨_, rfl⟩
 replace H : (if 0 ≤ (ji12) then (if (ji12) < (l0_2.length : Int) then (if ((rd_T73 l0_2 (ji12)).f0) ≥ ((rd_T73 l0_2 x8_1).f0) then (some false) else (impl_ValidPresence.l0 k1 l0_2 (l0_2.length : Int) (wrap64 (x8_1 + 1)) l0_0 l0_1 l0_2)) else (none)) else (none)) = some r := by first | (rw [hji12] at H; exact H) | (simp only [hji12] at H ⊢; exact H)
 (try rw [hji12] at A7)
 (try rw [hji12] at A9)
 have hji12w : (IntKind.i64.wrap (x8_1 - 1)) = ji12 := (i64_w _).trans hji12
 by_cases c13 : 0 ≤ (ji12)
 {
 rw [if_pos c13] at H
 have c13b0 : decide (0 ≤ (ji12)) = true := decide_eq_true c13
 clear c13
 by_cases c14 : (ji12) < (l0_2.length : Int)
 {
 rw [if_pos c14] at H
 have c14b0 : decide ((ji12) < (l0_2.length : Int)) = true := decide_eq_true c14
 clear c14
 by_cases c15 : ((rd_T73 l0_2 (ji12)).f0) ≥ ((rd_T73 l0_2 x8_1).f0)
 {
 rw [if_pos c15] at H
 have c15b0 : decide (((rd_T73 l0_2 x8_1).f0) ≤ ((rd_T73 l0_2 (ji12)).f0)) = true := decide_eq_true c15
 clear c15
 obtain rfl := Option.some.inj H
 have p369 : 0 ≤ (x8_1 : Int) := o1_
 have q369 : x8_1 < (l0_2.length : Int) := o1_
 obtain ⟨ad369, e369, hx369_0, hx369_1⟩ := at_T73 HR0_2.out x8_1 p369 q369
 cases e369
 replace hx369_0 := (HB.out.cell (World.block_lt_of_cell? w _ hx369_0)).trans hx369_0
 replace hx369_1 := (HB.out.cell (World.block_lt_of_cell? w _ hx369_1)).trans hx369_1
 replace p369 := eq_true p369
 replace q369 := eq_true q369
 go_wp2_with (first | ((with_reducible refine gate_dst (N := 4) rfl ?_); (try (refine gate_guard (by rfl) ?_; dsimp only)); refine bx_ 4 #[.int .i64 0, .int .i64 0] 73 ?_; intro gb370 hg w16 hbox hb; have GW370 := b6_ hg HB; have GE370 := b6_ hg HB; have NB366_370 := b4_ hg BK366; have NB370_366 := b5_ hg BK366; replace BK366 := b3_ BK366 hb; replace HB := A_ (below_step (y1_ HB.out) hb); have BK370 := A_ (hbox); clear hb hbox hg; have hnb17 := NB370_366.out; have hnc17 := NB366_370.out; have hcz18_0 := c1_ BK370 0 (.int .i64 0); have hcz18_1 := c1_ BK370 1 (.int .i64 0); have hfz18_0 := f1_ BK370 0; have hfz18_1 := f1_ BK370 1; have hcz19_0 := c1_ BK366 0 (.slice A0_0 l0_0.length c0_0); have hcz19_1 := c1_ BK366 1 (.slice A0_1 l0_1.length c0_1); have hcz19_2 := c1_ BK366 2 (.slice (some ad369) l0_2.length c0_2); have hfz19_0 := f1_ BK366 0; have hfz19_1 := f1_ BK366 1; have hfz19_2 := f1_ BK366 2; have p373 : 0 ≤ ((ji12) : Int) := o1_; have q373 : (ji12) < (l0_2.length : Int) := o1_; obtain ⟨ad373, e373, hx373_0, hx373_1⟩ := at_T73 HR0_2.out (ji12) p373 q373; obtain rfl : ad369 = ad373 := (by injection e373); have hn373_0 : ad369.block ≠ gb370 := Nat.ne_of_lt (Nat.lt_of_lt_of_le (by have := World.block_lt_of_cell? _ _ hx373_0; first | rwa [add_block] at this | exact this) GW370.out); have hn373_1 : ad369.block ≠ gb370 := Nat.ne_of_lt (Nat.lt_of_lt_of_le (by have := World.block_lt_of_cell? _ _ hx373_0; first | rwa [add_block] at this | exact this) GW370.out); replace hx373_0 := (HB.out.cell (World.block_lt_of_cell? w _ hx373_0)).trans hx373_0; replace hx373_1 := (HB.out.cell (World.block_lt_of_cell? w _ hx373_1)).trans hx373_1; replace hx373_0 := (cell_far (p := ⟨gb370, 0, none⟩) (by first | (rw [add_block]; exact hn373_0) | (show (Addr.add _ _).block ≠ _; rw [add_block]; exact hn373_0) | exact hn373_0) (.int .i64 ((rd_T73 l0_2 x8_1).f0))).trans hx373_0; replace hx373_1 := (cell_far (p := ⟨gb370, 0, none⟩) (by first | (rw [add_block]; exact hn373_0) | (show (Addr.add _ _).block ≠ _; rw [add_block]; exact hn373_0) | exact hn373_0) (.int .i64 ((rd_T73 l0_2 x8_1).f0))).trans hx373_1; replace hx373_0 := (cell_far (p := ⟨gb370, 1, none⟩) (by first | (rw [add_block]; exact hn373_1) | (show (Addr.add _ _).block ≠ _; rw [add_block]; exact hn373_1) | exact hn373_1) (.int .i64 ((rd_T73 l0_2 x8_1).f1))).trans hx373_0; replace hx373_1 := (cell_far (p := ⟨gb370, 1, none⟩) (by first | (rw [add_block]; exact hn373_1) | (show (Addr.add _ _).block ≠ _; rw [add_block]; exact hn373_1) | exact hn373_1) (.int .i64 ((rd_T73 l0_2 x8_1).f1))).trans hx373_1; (try have hy373_0 := fun (n_ : Nat) => (show ((((w16.drewN n_).setCell ⟨gb370, 0, none⟩ (.int .i64 ((rd_T73 l0_2 x8_1).f0))).setCell ⟨gb370, 1, none⟩ (.int .i64 ((rd_T73 l0_2 x8_1).f1)))).cell? _ = some _ from hx373_0)); (try have hy373_1 := fun (n_ : Nat) => (show ((((w16.drewN n_).setCell ⟨gb370, 0, none⟩ (.int .i64 ((rd_T73 l0_2 x8_1).f0))).setCell ⟨gb370, 1, none⟩ (.int .i64 ((rd_T73 l0_2 x8_1).f1)))).cell? _ = some _ from hx373_1)); clear hn373_0; clear hn373_1; replace p373 := eq_true p373; replace q373 := eq_true q373) | (go_at_call 54; (with_reducible refine (impl_isMember.calls ((rd_T73 l0_2 x8_1).f0) true _ A7.out).mono ?_); rintro e w' ⟨rfl, ⟨nd, rfl⟩⟩; (try exact d1_)) | (go_at_call 46; (with_reducible refine (impl_in.calls ((rd_T73 l0_2 x8_1).f1) 0 1000000000 true _ A9.out).mono ?_); rintro e w' ⟨rfl, ⟨nd, rfl⟩⟩; (try exact d1_)))
 repeat (go_quiet (first | ((with_reducible refine gate_dst (N := 4) rfl ?_); (try (refine gate_guard (by rfl) ?_; dsimp only)); refine bx_ 4 #[.int .i64 0, .int .i64 0] 73 ?_; intro gb370 hg w16 hbox hb; have GW370 := b6_ hg HB; have GE370 := b6_ hg HB; have NB366_370 := b4_ hg BK366; have NB370_366 := b5_ hg BK366; replace BK366 := b3_ BK366 hb; replace HB := A_ (below_step (y1_ HB.out) hb); have BK370 := A_ (hbox); clear hb hbox hg; have hnb17 := NB370_366.out; have hnc17 := NB366_370.out; have hcz18_0 := c1_ BK370 0 (.int .i64 0); have hcz18_1 := c1_ BK370 1 (.int .i64 0); have hfz18_0 := f1_ BK370 0; have hfz18_1 := f1_ BK370 1; have hcz19_0 := c1_ BK366 0 (.slice A0_0 l0_0.length c0_0); have hcz19_1 := c1_ BK366 1 (.slice A0_1 l0_1.length c0_1); have hcz19_2 := c1_ BK366 2 (.slice (some ad369) l0_2.length c0_2); have hfz19_0 := f1_ BK366 0; have hfz19_1 := f1_ BK366 1; have hfz19_2 := f1_ BK366 2; have p373 : 0 ≤ ((ji12) : Int) := o1_; have q373 : (ji12) < (l0_2.length : Int) := o1_; obtain ⟨ad373, e373, hx373_0, hx373_1⟩ := at_T73 HR0_2.out (ji12) p373 q373; obtain rfl : ad369 = ad373 := (by injection e373); have hn373_0 : ad369.block ≠ gb370 := Nat.ne_of_lt (Nat.lt_of_lt_of_le (by have := World.block_lt_of_cell? _ _ hx373_0; first | rwa [add_block] at this | exact this) GW370.out); have hn373_1 : ad369.block ≠ gb370 := Nat.ne_of_lt (Nat.lt_of_lt_of_le (by have := World.block_lt_of_cell? _ _ hx373_0; first | rwa [add_block] at this | exact this) GW370.out); replace hx373_0 := (HB.out.cell (World.block_lt_of_cell? w _ hx373_0)).trans hx373_0; replace hx373_1 := (HB.out.cell (World.block_lt_of_cell? w _ hx373_1)).trans hx373_1; replace hx373_0 := (cell_far (p := ⟨gb370, 0, none⟩) (by first | (rw [add_block]; exact hn373_0) | (show (Addr.add _ _).block ≠ _; rw [add_block]; exact hn373_0) | exact hn373_0) (.int .i64 ((rd_T73 l0_2 x8_1).f0))).trans hx373_0; replace hx373_1 := (cell_far (p := ⟨gb370, 0, none⟩) (by first | (rw [add_block]; exact hn373_0) | (show (Addr.add _ _).block ≠ _; rw [add_block]; exact hn373_0) | exact hn373_0) (.int .i64 ((rd_T73 l0_2 x8_1).f0))).trans hx373_1; replace hx373_0 := (cell_far (p := ⟨gb370, 1, none⟩) (by first | (rw [add_block]; exact hn373_1) | (show (Addr.add _ _).block ≠ _; rw [add_block]; exact hn373_1) | exact hn373_1) (.int .i64 ((rd_T73 l0_2 x8_1).f1))).trans hx373_0; replace hx373_1 := (cell_far (p := ⟨gb370, 1, none⟩) (by first | (rw [add_block]; exact hn373_1) | (show (Addr.add _ _).block ≠ _; rw [add_block]; exact hn373_1) | exact hn373_1) (.int .i64 ((rd_T73 l0_2 x8_1).f1))).trans hx373_1; (try have hy373_0 := fun (n_ : Nat) => (show ((((w16.drewN n_).setCell ⟨gb370, 0, none⟩ (.int .i64 ((rd_T73 l0_2 x8_1).f0))).setCell ⟨gb370, 1, none⟩ (.int .i64 ((rd_T73 l0_2 x8_1).f1)))).cell? _ = some _ from hx373_0)); (try have hy373_1 := fun (n_ : Nat) => (show ((((w16.drewN n_).setCell ⟨gb370, 0, none⟩ (.int .i64 ((rd_T73 l0_2 x8_1).f0))).setCell ⟨gb370, 1, none⟩ (.int .i64 ((rd_T73 l0_2 x8_1).f1)))).cell? _ = some _ from hx373_1)); clear hn373_0; clear hn373_1; replace p373 := eq_true p373; replace q373 := eq_true q373) | (go_at_call 54; (with_reducible refine (impl_isMember.calls ((rd_T73 l0_2 x8_1).f0) true _ A7.out).mono ?_); rintro e w' ⟨rfl, ⟨nd, rfl⟩⟩; (try exact d1_)) | (go_at_call 46; (with_reducible refine (impl_in.calls ((rd_T73 l0_2 x8_1).f1) 0 1000000000 true _ A9.out).mono ?_); rintro e w' ⟨rfl, ⟨nd, rfl⟩⟩; (try exact d1_))); try go_wp2_with (first | ((with_reducible refine gate_dst (N := 4) rfl ?_); (try (refine gate_guard (by rfl) ?_; dsimp only)); refine bx_ 4 #[.int .i64 0, .int .i64 0] 73 ?_; intro gb370 hg w16 hbox hb; have GW370 := b6_ hg HB; have GE370 := b6_ hg HB; have NB366_370 := b4_ hg BK366; have NB370_366 := b5_ hg BK366; replace BK366 := b3_ BK366 hb; replace HB := A_ (below_step (y1_ HB.out) hb); have BK370 := A_ (hbox); clear hb hbox hg; have hnb17 := NB370_366.out; have hnc17 := NB366_370.out; have hcz18_0 := c1_ BK370 0 (.int .i64 0); have hcz18_1 := c1_ BK370 1 (.int .i64 0); have hfz18_0 := f1_ BK370 0; have hfz18_1 := f1_ BK370 1; have hcz19_0 := c1_ BK366 0 (.slice A0_0 l0_0.length c0_0); have hcz19_1 := c1_ BK366 1 (.slice A0_1 l0_1.length c0_1); have hcz19_2 := c1_ BK366 2 (.slice (some ad369) l0_2.length c0_2); have hfz19_0 := f1_ BK366 0; have hfz19_1 := f1_ BK366 1; have hfz19_2 := f1_ BK366 2; have p373 : 0 ≤ ((ji12) : Int) := o1_; have q373 : (ji12) < (l0_2.length : Int) := o1_; obtain ⟨ad373, e373, hx373_0, hx373_1⟩ := at_T73 HR0_2.out (ji12) p373 q373; obtain rfl : ad369 = ad373 := (by injection e373); have hn373_0 : ad369.block ≠ gb370 := Nat.ne_of_lt (Nat.lt_of_lt_of_le (by have := World.block_lt_of_cell? _ _ hx373_0; first | rwa [add_block] at this | exact this) GW370.out); have hn373_1 : ad369.block ≠ gb370 := Nat.ne_of_lt (Nat.lt_of_lt_of_le (by have := World.block_lt_of_cell? _ _ hx373_0; first | rwa [add_block] at this | exact this) GW370.out); replace hx373_0 := (HB.out.cell (World.block_lt_of_cell? w _ hx373_0)).trans hx373_0; replace hx373_1 := (HB.out.cell (World.block_lt_of_cell? w _ hx373_1)).trans hx373_1; replace hx373_0 := (cell_far (p := ⟨gb370, 0, none⟩) (by first | (rw [add_block]; exact hn373_0) | (show (Addr.add _ _).block ≠ _; rw [add_block]; exact hn373_0) | exact hn373_0) (.int .i64 ((rd_T73 l0_2 x8_1).f0))).trans hx373_0; replace hx373_1 := (cell_far (p := ⟨gb370, 0, none⟩) (by first | (rw [add_block]; exact hn373_0) | (show (Addr.add _ _).block ≠ _; rw [add_block]; exact hn373_0) | exact hn373_0) (.int .i64 ((rd_T73 l0_2 x8_1).f0))).trans hx373_1; replace hx373_0 := (cell_far (p := ⟨gb370, 1, none⟩) (by first | (rw [add_block]; exact hn373_1) | (show (Addr.add _ _).block ≠ _; rw [add_block]; exact hn373_1) | exact hn373_1) (.int .i64 ((rd_T73 l0_2 x8_1).f1))).trans hx373_0; replace hx373_1 := (cell_far (p := ⟨gb370, 1, none⟩) (by first | (rw [add_block]; exact hn373_1) | (show (Addr.add _ _).block ≠ _; rw [add_block]; exact hn373_1) | exact hn373_1) (.int .i64 ((rd_T73 l0_2 x8_1).f1))).trans hx373_1; (try have hy373_0 := fun (n_ : Nat) => (show ((((w16.drewN n_).setCell ⟨gb370, 0, none⟩ (.int .i64 ((rd_T73 l0_2 x8_1).f0))).setCell ⟨gb370, 1, none⟩ (.int .i64 ((rd_T73 l0_2 x8_1).f1)))).cell? _ = some _ from hx373_0)); (try have hy373_1 := fun (n_ : Nat) => (show ((((w16.drewN n_).setCell ⟨gb370, 0, none⟩ (.int .i64 ((rd_T73 l0_2 x8_1).f0))).setCell ⟨gb370, 1, none⟩ (.int .i64 ((rd_T73 l0_2 x8_1).f1)))).cell? _ = some _ from hx373_1)); clear hn373_0; clear hn373_1; replace p373 := eq_true p373; replace q373 := eq_true q373) | (go_at_call 54; (with_reducible refine (impl_isMember.calls ((rd_T73 l0_2 x8_1).f0) true _ A7.out).mono ?_); rintro e w' ⟨rfl, ⟨nd, rfl⟩⟩; (try exact d1_)) | (go_at_call 46; (with_reducible refine (impl_in.calls ((rd_T73 l0_2 x8_1).f1) 0 1000000000 true _ A9.out).mono ?_); rintro e w' ⟨rfl, ⟨nd, rfl⟩⟩; (try exact d1_))))
 go_ret
 exact ⟨by first | rfl | (simp [errW_none, errW_some] <;> rfl) | (simp only [← hji12]; first | rfl | (simp [errW_none, errW_some] <;> rfl)) | (simp [*, errW_none, errW_some] <;> rfl), by repeat (first | (with_reducible first | exact HB.out | apply below_alloc | apply pw_below_drewN | apply below_drew1 | refine below_set ?_ GE370.out) | exact HB.out)⟩}
 {
 rw [if_neg c15] at H
 have c15b0 : decide (((rd_T73 l0_2 x8_1).f0) ≤ ((rd_T73 l0_2 (ji12)).f0)) = false := decide_eq_false c15
 clear c15
 have H' := A_ H
 clear H
 have p369 : 0 ≤ (x8_1 : Int) := o1_
 have q369 : x8_1 < (l0_2.length : Int) := o1_
 obtain ⟨ad369, e369, hx369_0, hx369_1⟩ := at_T73 HR0_2.out x8_1 p369 q369
 cases e369
 replace hx369_0 := (HB.out.cell (World.block_lt_of_cell? w _ hx369_0)).trans hx369_0
 replace hx369_1 := (HB.out.cell (World.block_lt_of_cell? w _ hx369_1)).trans hx369_1
 replace p369 := eq_true p369
 replace q369 := eq_true q369
 go_wp2_with (first | ((with_reducible refine gate_dst (N := 4) rfl ?_); (try (refine gate_guard (by rfl) ?_; dsimp only)); refine bx_ 4 #[.int .i64 0, .int .i64 0] 73 ?_; intro gb370 hg w20 hbox hb; have GW370 := b6_ hg HB; have GE370 := b6_ hg HB; have NB366_370 := b4_ hg BK366; have NB370_366 := b5_ hg BK366; replace BK366 := b3_ BK366 hb; replace HB := A_ (below_step (y1_ HB.out) hb); have BK370 := A_ (hbox); clear hb hbox hg; have hnb21 := NB370_366.out; have hnc21 := NB366_370.out; have hcz22_0 := c1_ BK370 0 (.int .i64 0); have hcz22_1 := c1_ BK370 1 (.int .i64 0); have hfz22_0 := f1_ BK370 0; have hfz22_1 := f1_ BK370 1; have hcz23_0 := c1_ BK366 0 (.slice A0_0 l0_0.length c0_0); have hcz23_1 := c1_ BK366 1 (.slice A0_1 l0_1.length c0_1); have hcz23_2 := c1_ BK366 2 (.slice (some ad369) l0_2.length c0_2); have hfz23_0 := f1_ BK366 0; have hfz23_1 := f1_ BK366 1; have hfz23_2 := f1_ BK366 2; have p373 : 0 ≤ ((ji12) : Int) := o1_; have q373 : (ji12) < (l0_2.length : Int) := o1_; obtain ⟨ad373, e373, hx373_0, hx373_1⟩ := at_T73 HR0_2.out (ji12) p373 q373; obtain rfl : ad369 = ad373 := (by injection e373); have hn373_0 : ad369.block ≠ gb370 := Nat.ne_of_lt (Nat.lt_of_lt_of_le (by have := World.block_lt_of_cell? _ _ hx373_0; first | rwa [add_block] at this | exact this) GW370.out); have hn373_1 : ad369.block ≠ gb370 := Nat.ne_of_lt (Nat.lt_of_lt_of_le (by have := World.block_lt_of_cell? _ _ hx373_0; first | rwa [add_block] at this | exact this) GW370.out); replace hx373_0 := (HB.out.cell (World.block_lt_of_cell? w _ hx373_0)).trans hx373_0; replace hx373_1 := (HB.out.cell (World.block_lt_of_cell? w _ hx373_1)).trans hx373_1; replace hx373_0 := (cell_far (p := ⟨gb370, 0, none⟩) (by first | (rw [add_block]; exact hn373_0) | (show (Addr.add _ _).block ≠ _; rw [add_block]; exact hn373_0) | exact hn373_0) (.int .i64 ((rd_T73 l0_2 x8_1).f0))).trans hx373_0; replace hx373_1 := (cell_far (p := ⟨gb370, 0, none⟩) (by first | (rw [add_block]; exact hn373_0) | (show (Addr.add _ _).block ≠ _; rw [add_block]; exact hn373_0) | exact hn373_0) (.int .i64 ((rd_T73 l0_2 x8_1).f0))).trans hx373_1; replace hx373_0 := (cell_far (p := ⟨gb370, 1, none⟩) (by first | (rw [add_block]; exact hn373_1) | (show (Addr.add _ _).block ≠ _; rw [add_block]; exact hn373_1) | exact hn373_1) (.int .i64 ((rd_T73 l0_2 x8_1).f1))).trans hx373_0; replace hx373_1 := (cell_far (p := ⟨gb370, 1, none⟩) (by first | (rw [add_block]; exact hn373_1) | (show (Addr.add _ _).block ≠ _; rw [add_block]; exact hn373_1) | exact hn373_1) (.int .i64 ((rd_T73 l0_2 x8_1).f1))).trans hx373_1; (try have hy373_0 := fun (n_ : Nat) => (show ((((w20.drewN n_).setCell ⟨gb370, 0, none⟩ (.int .i64 ((rd_T73 l0_2 x8_1).f0))).setCell ⟨gb370, 1, none⟩ (.int .i64 ((rd_T73 l0_2 x8_1).f1)))).cell? _ = some _ from hx373_0)); (try have hy373_1 := fun (n_ : Nat) => (show ((((w20.drewN n_).setCell ⟨gb370, 0, none⟩ (.int .i64 ((rd_T73 l0_2 x8_1).f0))).setCell ⟨gb370, 1, none⟩ (.int .i64 ((rd_T73 l0_2 x8_1).f1)))).cell? _ = some _ from hx373_1)); clear hn373_0; clear hn373_1; replace p373 := eq_true p373; replace q373 := eq_true q373) | (go_at_call 54; (with_reducible refine (impl_isMember.calls ((rd_T73 l0_2 x8_1).f0) true _ A7.out).mono ?_); rintro e w' ⟨rfl, ⟨nd, rfl⟩⟩; (try exact d1_)) | (go_at_call 46; (with_reducible refine (impl_in.calls ((rd_T73 l0_2 x8_1).f1) 0 1000000000 true _ A9.out).mono ?_); rintro e w' ⟨rfl, ⟨nd, rfl⟩⟩; (try exact d1_)))
 repeat (go_quiet (first | ((with_reducible refine gate_dst (N := 4) rfl ?_); (try (refine gate_guard (by rfl) ?_; dsimp only)); refine bx_ 4 #[.int .i64 0, .int .i64 0] 73 ?_; intro gb370 hg w20 hbox hb; have GW370 := b6_ hg HB; have GE370 := b6_ hg HB; have NB366_370 := b4_ hg BK366; have NB370_366 := b5_ hg BK366; replace BK366 := b3_ BK366 hb; replace HB := A_ (below_step (y1_ HB.out) hb); have BK370 := A_ (hbox); clear hb hbox hg; have hnb21 := NB370_366.out; have hnc21 := NB366_370.out; have hcz22_0 := c1_ BK370 0 (.int .i64 0); have hcz22_1 := c1_ BK370 1 (.int .i64 0); have hfz22_0 := f1_ BK370 0; have hfz22_1 := f1_ BK370 1; have hcz23_0 := c1_ BK366 0 (.slice A0_0 l0_0.length c0_0); have hcz23_1 := c1_ BK366 1 (.slice A0_1 l0_1.length c0_1); have hcz23_2 := c1_ BK366 2 (.slice (some ad369) l0_2.length c0_2); have hfz23_0 := f1_ BK366 0; have hfz23_1 := f1_ BK366 1; have hfz23_2 := f1_ BK366 2; have p373 : 0 ≤ ((ji12) : Int) := o1_; have q373 : (ji12) < (l0_2.length : Int) := o1_; obtain ⟨ad373, e373, hx373_0, hx373_1⟩ := at_T73 HR0_2.out (ji12) p373 q373; obtain rfl : ad369 = ad373 := (by injection e373); have hn373_0 : ad369.block ≠ gb370 := Nat.ne_of_lt (Nat.lt_of_lt_of_le (by have := World.block_lt_of_cell? _ _ hx373_0; first | rwa [add_block] at this | exact this) GW370.out); have hn373_1 : ad369.block ≠ gb370 := Nat.ne_of_lt (Nat.lt_of_lt_of_le (by have := World.block_lt_of_cell? _ _ hx373_0; first | rwa [add_block] at this | exact this) GW370.out); replace hx373_0 := (HB.out.cell (World.block_lt_of_cell? w _ hx373_0)).trans hx373_0; replace hx373_1 := (HB.out.cell (World.block_lt_of_cell? w _ hx373_1)).trans hx373_1; replace hx373_0 := (cell_far (p := ⟨gb370, 0, none⟩) (by first | (rw [add_block]; exact hn373_0) | (show (Addr.add _ _).block ≠ _; rw [add_block]; exact hn373_0) | exact hn373_0) (.int .i64 ((rd_T73 l0_2 x8_1).f0))).trans hx373_0; replace hx373_1 := (cell_far (p := ⟨gb370, 0, none⟩) (by first | (rw [add_block]; exact hn373_0) | (show (Addr.add _ _).block ≠ _; rw [add_block]; exact hn373_0) | exact hn373_0) (.int .i64 ((rd_T73 l0_2 x8_1).f0))).trans hx373_1; replace hx373_0 := (cell_far (p := ⟨gb370, 1, none⟩) (by first | (rw [add_block]; exact hn373_1) | (show (Addr.add _ _).block ≠ _; rw [add_block]; exact hn373_1) | exact hn373_1) (.int .i64 ((rd_T73 l0_2 x8_1).f1))).trans hx373_0; replace hx373_1 := (cell_far (p := ⟨gb370, 1, none⟩) (by first | (rw [add_block]; exact hn373_1) | (show (Addr.add _ _).block ≠ _; rw [add_block]; exact hn373_1) | exact hn373_1) (.int .i64 ((rd_T73 l0_2 x8_1).f1))).trans hx373_1; (try have hy373_0 := fun (n_ : Nat) => (show ((((w20.drewN n_).setCell ⟨gb370, 0, none⟩ (.int .i64 ((rd_T73 l0_2 x8_1).f0))).setCell ⟨gb370, 1, none⟩ (.int .i64 ((rd_T73 l0_2 x8_1).f1)))).cell? _ = some _ from hx373_0)); (try have hy373_1 := fun (n_ : Nat) => (show ((((w20.drewN n_).setCell ⟨gb370, 0, none⟩ (.int .i64 ((rd_T73 l0_2 x8_1).f0))).setCell ⟨gb370, 1, none⟩ (.int .i64 ((rd_T73 l0_2 x8_1).f1)))).cell? _ = some _ from hx373_1)); clear hn373_0; clear hn373_1; replace p373 := eq_true p373; replace q373 := eq_true q373) | (go_at_call 54; (with_reducible refine (impl_isMember.calls ((rd_T73 l0_2 x8_1).f0) true _ A7.out).mono ?_); rintro e w' ⟨rfl, ⟨nd, rfl⟩⟩; (try exact d1_)) | (go_at_call 46; (with_reducible refine (impl_in.calls ((rd_T73 l0_2 x8_1).f1) 0 1000000000 true _ A9.out).mono ?_); rintro e w' ⟨rfl, ⟨nd, rfl⟩⟩; (try exact d1_))); try go_wp2_with (first | ((with_reducible refine gate_dst (N := 4) rfl ?_); (try (refine gate_guard (by rfl) ?_; dsimp only)); refine bx_ 4 #[.int .i64 0, .int .i64 0] 73 ?_; intro gb370 hg w20 hbox hb; have GW370 := b6_ hg HB; have GE370 := b6_ hg HB; have NB366_370 := b4_ hg BK366; have NB370_366 := b5_ hg BK366; replace BK366 := b3_ BK366 hb; replace HB := A_ (below_step (y1_ HB.out) hb); have BK370 := A_ (hbox); clear hb hbox hg; have hnb21 := NB370_366.out; have hnc21 := NB366_370.out; have hcz22_0 := c1_ BK370 0 (.int .i64 0); have hcz22_1 := c1_ BK370 1 (.int .i64 0); have hfz22_0 := f1_ BK370 0; have hfz22_1 := f1_ BK370 1; have hcz23_0 := c1_ BK366 0 (.slice A0_0 l0_0.length c0_0); have hcz23_1 := c1_ BK366 1 (.slice A0_1 l0_1.length c0_1); have hcz23_2 := c1_ BK366 2 (.slice (some ad369) l0_2.length c0_2); have hfz23_0 := f1_ BK366 0; have hfz23_1 := f1_ BK366 1; have hfz23_2 := f1_ BK366 2; have p373 : 0 ≤ ((ji12) : Int) := o1_; have q373 : (ji12) < (l0_2.length : Int) := o1_; obtain ⟨ad373, e373, hx373_0, hx373_1⟩ := at_T73 HR0_2.out (ji12) p373 q373; obtain rfl : ad369 = ad373 := (by injection e373); have hn373_0 : ad369.block ≠ gb370 := Nat.ne_of_lt (Nat.lt_of_lt_of_le (by have := World.block_lt_of_cell? _ _ hx373_0; first | rwa [add_block] at this | exact this) GW370.out); have hn373_1 : ad369.block ≠ gb370 := Nat.ne_of_lt (Nat.lt_of_lt_of_le (by have := World.block_lt_of_cell? _ _ hx373_0; first | rwa [add_block] at this | exact this) GW370.out); replace hx373_0 := (HB.out.cell (World.block_lt_of_cell? w _ hx373_0)).trans hx373_0; replace hx373_1 := (HB.out.cell (World.block_lt_of_cell? w _ hx373_1)).trans hx373_1; replace hx373_0 := (cell_far (p := ⟨gb370, 0, none⟩) (by first | (rw [add_block]; exact hn373_0) | (show (Addr.add _ _).block ≠ _; rw [add_block]; exact hn373_0) | exact hn373_0) (.int .i64 ((rd_T73 l0_2 x8_1).f0))).trans hx373_0; replace hx373_1 := (cell_far (p := ⟨gb370, 0, none⟩) (by first | (rw [add_block]; exact hn373_0) | (show (Addr.add _ _).block ≠ _; rw [add_block]; exact hn373_0) | exact hn373_0) (.int .i64 ((rd_T73 l0_2 x8_1).f0))).trans hx373_1; replace hx373_0 := (cell_far (p := ⟨gb370, 1, none⟩) (by first | (rw [add_block]; exact hn373_1) | (show (Addr.add _ _).block ≠ _; rw [add_block]; exact hn373_1) | exact hn373_1) (.int .i64 ((rd_T73 l0_2 x8_1).f1))).trans hx373_0; replace hx373_1 := (cell_far (p := ⟨gb370, 1, none⟩) (by first | (rw [add_block]; exact hn373_1) | (show (Addr.add _ _).block ≠ _; rw [add_block]; exact hn373_1) | exact hn373_1) (.int .i64 ((rd_T73 l0_2 x8_1).f1))).trans hx373_1; (try have hy373_0 := fun (n_ : Nat) => (show ((((w20.drewN n_).setCell ⟨gb370, 0, none⟩ (.int .i64 ((rd_T73 l0_2 x8_1).f0))).setCell ⟨gb370, 1, none⟩ (.int .i64 ((rd_T73 l0_2 x8_1).f1)))).cell? _ = some _ from hx373_0)); (try have hy373_1 := fun (n_ : Nat) => (show ((((w20.drewN n_).setCell ⟨gb370, 0, none⟩ (.int .i64 ((rd_T73 l0_2 x8_1).f0))).setCell ⟨gb370, 1, none⟩ (.int .i64 ((rd_T73 l0_2 x8_1).f1)))).cell? _ = some _ from hx373_1)); clear hn373_0; clear hn373_1; replace p373 := eq_true p373; replace q373 := eq_true q373) | (go_at_call 54; (with_reducible refine (impl_isMember.calls ((rd_T73 l0_2 x8_1).f0) true _ A7.out).mono ?_); rintro e w' ⟨rfl, ⟨nd, rfl⟩⟩; (try exact d1_)) | (go_at_call 46; (with_reducible refine (impl_in.calls ((rd_T73 l0_2 x8_1).f1) 0 1000000000 true _ A9.out).mono ?_); rintro e w' ⟨rfl, ⟨nd, rfl⟩⟩; (try exact d1_))))
 go_roundg k1
 case measure => have := HK1.out; omega
 case rel => exact ⟨(wrap64 (x8_1 + 1)), s1_, H', ⟨by have := HK1.out; omega⟩, ⟨by refine b1_ ?_; refine blk_far ?_ NB366_370.out _; refine b1_ ?_; refine blk_far ?_ NB366_370.out _; refine b1_ ?_; exact BK366.out⟩, ⟨by repeat (first | (with_reducible first | exact HB.out | apply below_alloc | apply pw_below_drewN | apply below_drew1 | refine below_set ?_ GE370.out) | exact HB.out)⟩⟩}}
 {
 rw [if_neg c14] at H
 exact absurd H (by simp)}}
 {
 rw [if_neg c13] at H
 exact absurd H (by simp)}}
 {
 rw [if_neg c11] at H
 have c11b0 : decide (0 < x8_1) = false := decide_eq_false c11
 clear c11
 have H' := A_ H
 clear H
 have p369 : 0 ≤ (x8_1 : Int) := o1_
 have q369 : x8_1 < (l0_2.length : Int) := o1_
 obtain ⟨ad369, e369, hx369_0, hx369_1⟩ := at_T73 HR0_2.out x8_1 p369 q369
 cases e369
 replace hx369_0 := (HB.out.cell (World.block_lt_of_cell? w _ hx369_0)).trans hx369_0
 replace hx369_1 := (HB.out.cell (World.block_lt_of_cell? w _ hx369_1)).trans hx369_1
 replace p369 := eq_true p369
 replace q369 := eq_true q369
 go_wp2_with (first | ((with_reducible refine gate_dst (N := 4) rfl ?_); (try (refine gate_guard (by rfl) ?_; dsimp only)); refine bx_ 4 #[.int .i64 0, .int .i64 0] 73 ?_; intro gb370 hg w24 hbox hb; have GW370 := b6_ hg HB; have GE370 := b6_ hg HB; have NB366_370 := b4_ hg BK366; have NB370_366 := b5_ hg BK366; replace BK366 := b3_ BK366 hb; replace HB := A_ (below_step (y1_ HB.out) hb); have BK370 := A_ (hbox); clear hb hbox hg; have hnb25 := NB370_366.out; have hnc25 := NB366_370.out; have hcz26_0 := c1_ BK370 0 (.int .i64 0); have hcz26_1 := c1_ BK370 1 (.int .i64 0); have hfz26_0 := f1_ BK370 0; have hfz26_1 := f1_ BK370 1) | (go_at_call 54; (with_reducible refine (impl_isMember.calls ((rd_T73 l0_2 x8_1).f0) true _ A7.out).mono ?_); rintro e w' ⟨rfl, ⟨nd, rfl⟩⟩; (try exact d1_)) | (go_at_call 46; (with_reducible refine (impl_in.calls ((rd_T73 l0_2 x8_1).f1) 0 1000000000 true _ A9.out).mono ?_); rintro e w' ⟨rfl, ⟨nd, rfl⟩⟩; (try exact d1_)))
 repeat (go_quiet (first | ((with_reducible refine gate_dst (N := 4) rfl ?_); (try (refine gate_guard (by rfl) ?_; dsimp only)); refine bx_ 4 #[.int .i64 0, .int .i64 0] 73 ?_; intro gb370 hg w24 hbox hb; have GW370 := b6_ hg HB; have GE370 := b6_ hg HB; have NB366_370 := b4_ hg BK366; have NB370_366 := b5_ hg BK366; replace BK366 := b3_ BK366 hb; replace HB := A_ (below_step (y1_ HB.out) hb); have BK370 := A_ (hbox); clear hb hbox hg; have hnb25 := NB370_366.out; have hnc25 := NB366_370.out; have hcz26_0 := c1_ BK370 0 (.int .i64 0); have hcz26_1 := c1_ BK370 1 (.int .i64 0); have hfz26_0 := f1_ BK370 0; have hfz26_1 := f1_ BK370 1) | (go_at_call 54; (with_reducible refine (impl_isMember.calls ((rd_T73 l0_2 x8_1).f0) true _ A7.out).mono ?_); rintro e w' ⟨rfl, ⟨nd, rfl⟩⟩; (try exact d1_)) | (go_at_call 46; (with_reducible refine (impl_in.calls ((rd_T73 l0_2 x8_1).f1) 0 1000000000 true _ A9.out).mono ?_); rintro e w' ⟨rfl, ⟨nd, rfl⟩⟩; (try exact d1_))); try go_wp2_with (first | ((with_reducible refine gate_dst (N := 4) rfl ?_); (try (refine gate_guard (by rfl) ?_; dsimp only)); refine bx_ 4 #[.int .i64 0, .int .i64 0] 73 ?_; intro gb370 hg w24 hbox hb; have GW370 := b6_ hg HB; have GE370 := b6_ hg HB; have NB366_370 := b4_ hg BK366; have NB370_366 := b5_ hg BK366; replace BK366 := b3_ BK366 hb; replace HB := A_ (below_step (y1_ HB.out) hb); have BK370 := A_ (hbox); clear hb hbox hg; have hnb25 := NB370_366.out; have hnc25 := NB366_370.out; have hcz26_0 := c1_ BK370 0 (.int .i64 0); have hcz26_1 := c1_ BK370 1 (.int .i64 0); have hfz26_0 := f1_ BK370 0; have hfz26_1 := f1_ BK370 1) | (go_at_call 54; (with_reducible refine (impl_isMember.calls ((rd_T73 l0_2 x8_1).f0) true _ A7.out).mono ?_); rintro e w' ⟨rfl, ⟨nd, rfl⟩⟩; (try exact d1_)) | (go_at_call 46; (with_reducible refine (impl_in.calls ((rd_T73 l0_2 x8_1).f1) 0 1000000000 true _ A9.out).mono ?_); rintro e w' ⟨rfl, ⟨nd, rfl⟩⟩; (try exact d1_))))
 go_roundg k1
 case measure => have := HK1.out; omega
 case rel => exact ⟨(wrap64 (x8_1 + 1)), s1_, H', ⟨by have := HK1.out; omega⟩, ⟨by refine b1_ ?_; refine blk_far ?_ NB366_370.out _; refine b1_ ?_; refine blk_far ?_ NB366_370.out _; refine b1_ ?_; exact BK366.out⟩, ⟨by repeat (first | (with_reducible first | exact HB.out | apply below_alloc | apply pw_below_drewN | apply below_drew1 | refine below_set ?_ GE370.out) | exact HB.out)⟩⟩}}
 {
 replace c10 := Bool.eq_false_iff.mpr c10
 subst c10
 have H1 : (some false) = some r := by rw [if_neg (show ¬ (false = true) by decide)] at H; exact H
 clear H
 have H := H1
 clear H1
 obtain rfl := Option.some.inj H
 have p369 : 0 ≤ (x8_1 : Int) := o1_
 have q369 : x8_1 < (l0_2.length : Int) := o1_
 obtain ⟨ad369, e369, hx369_0, hx369_1⟩ := at_T73 HR0_2.out x8_1 p369 q369
 cases e369
 replace hx369_0 := (HB.out.cell (World.block_lt_of_cell? w _ hx369_0)).trans hx369_0
 replace hx369_1 := (HB.out.cell (World.block_lt_of_cell? w _ hx369_1)).trans hx369_1
 replace p369 := eq_true p369
 replace q369 := eq_true q369
 go_wp2_with (first | ((with_reducible refine gate_dst (N := 4) rfl ?_); (try (refine gate_guard (by rfl) ?_; dsimp only)); refine bx_ 4 #[.int .i64 0, .int .i64 0] 73 ?_; intro gb370 hg w27 hbox hb; have GW370 := b6_ hg HB; have GE370 := b6_ hg HB; have NB366_370 := b4_ hg BK366; have NB370_366 := b5_ hg BK366; replace BK366 := b3_ BK366 hb; replace HB := A_ (below_step (y1_ HB.out) hb); have BK370 := A_ (hbox); clear hb hbox hg; have hnb28 := NB370_366.out; have hnc28 := NB366_370.out; have hcz29_0 := c1_ BK370 0 (.int .i64 0); have hcz29_1 := c1_ BK370 1 (.int .i64 0); have hfz29_0 := f1_ BK370 0; have hfz29_1 := f1_ BK370 1) | (go_at_call 54; (with_reducible refine (impl_isMember.calls ((rd_T73 l0_2 x8_1).f0) true _ A7.out).mono ?_); rintro e w' ⟨rfl, ⟨nd, rfl⟩⟩; (try exact d1_)) | (go_at_call 46; (with_reducible refine (impl_in.calls ((rd_T73 l0_2 x8_1).f1) 0 1000000000 false _ A9.out).mono ?_); rintro e w' ⟨rfl, ⟨nd, rfl⟩⟩; (try exact d1_)))
 repeat (go_quiet (first | ((with_reducible refine gate_dst (N := 4) rfl ?_); (try (refine gate_guard (by rfl) ?_; dsimp only)); refine bx_ 4 #[.int .i64 0, .int .i64 0] 73 ?_; intro gb370 hg w27 hbox hb; have GW370 := b6_ hg HB; have GE370 := b6_ hg HB; have NB366_370 := b4_ hg BK366; have NB370_366 := b5_ hg BK366; replace BK366 := b3_ BK366 hb; replace HB := A_ (below_step (y1_ HB.out) hb); have BK370 := A_ (hbox); clear hb hbox hg; have hnb28 := NB370_366.out; have hnc28 := NB366_370.out; have hcz29_0 := c1_ BK370 0 (.int .i64 0); have hcz29_1 := c1_ BK370 1 (.int .i64 0); have hfz29_0 := f1_ BK370 0; have hfz29_1 := f1_ BK370 1) | (go_at_call 54; (with_reducible refine (impl_isMember.calls ((rd_T73 l0_2 x8_1).f0) true _ A7.out).mono ?_); rintro e w' ⟨rfl, ⟨nd, rfl⟩⟩; (try exact d1_)) | (go_at_call 46; (with_reducible refine (impl_in.calls ((rd_T73 l0_2 x8_1).f1) 0 1000000000 false _ A9.out).mono ?_); rintro e w' ⟨rfl, ⟨nd, rfl⟩⟩; (try exact d1_))); try go_wp2_with (first | ((with_reducible refine gate_dst (N := 4) rfl ?_); (try (refine gate_guard (by rfl) ?_; dsimp only)); refine bx_ 4 #[.int .i64 0, .int .i64 0] 73 ?_; intro gb370 hg w27 hbox hb; have GW370 := b6_ hg HB; have GE370 := b6_ hg HB; have NB366_370 := b4_ hg BK366; have NB370_366 := b5_ hg BK366; replace BK366 := b3_ BK366 hb; replace HB := A_ (below_step (y1_ HB.out) hb); have BK370 := A_ (hbox); clear hb hbox hg; have hnb28 := NB370_366.out; have hnc28 := NB366_370.out; have hcz29_0 := c1_ BK370 0 (.int .i64 0); have hcz29_1 := c1_ BK370 1 (.int .i64 0); have hfz29_0 := f1_ BK370 0; have hfz29_1 := f1_ BK370 1) | (go_at_call 54; (with_reducible refine (impl_isMember.calls ((rd_T73 l0_2 x8_1).f0) true _ A7.out).mono ?_); rintro e w' ⟨rfl, ⟨nd, rfl⟩⟩; (try exact d1_)) | (go_at_call 46; (with_reducible refine (impl_in.calls ((rd_T73 l0_2 x8_1).f1) 0 1000000000 false _ A9.out).mono ?_); rintro e w' ⟨rfl, ⟨nd, rfl⟩⟩; (try exact d1_))))
 go_ret
 exact ⟨e1_, by repeat (first | (with_reducible first | exact HB.out | apply below_alloc | apply pw_below_drewN | apply below_drew1 | refine below_set ?_ GE370.out) | exact HB.out)⟩}}
 {
 replace c8 := Bool.eq_false_iff.mpr c8
 subst c8
 have H1 : (some false) = some r := by rw [if_neg (show ¬ (false = true) by decide)] at H; exact H
 clear H
 have H := H1
 clear H1
 obtain rfl := Option.some.inj H
 have p369 : 0 ≤ (x8_1 : Int) := o1_
 have q369 : x8_1 < (l0_2.length : Int) := o1_
 obtain ⟨ad369, e369, hx369_0, hx369_1⟩ := at_T73 HR0_2.out x8_1 p369 q369
 cases e369
 replace hx369_0 := (HB.out.cell (World.block_lt_of_cell? w _ hx369_0)).trans hx369_0
 replace hx369_1 := (HB.out.cell (World.block_lt_of_cell? w _ hx369_1)).trans hx369_1
 replace p369 := eq_true p369
 replace q369 := eq_true q369
 go_wp2_with (first | ((with_reducible refine gate_dst (N := 4) rfl ?_); (try (refine gate_guard (by rfl) ?_; dsimp only)); refine bx_ 4 #[.int .i64 0, .int .i64 0] 73 ?_; intro gb370 hg w30 hbox hb; have GW370 := b6_ hg HB; have GE370 := b6_ hg HB; have NB366_370 := b4_ hg BK366; have NB370_366 := b5_ hg BK366; replace BK366 := b3_ BK366 hb; replace HB := A_ (below_step (y1_ HB.out) hb); have BK370 := A_ (hbox); clear hb hbox hg; have hnb31 := NB370_366.out; have hnc31 := NB366_370.out; have hcz32_0 := c1_ BK370 0 (.int .i64 0); have hcz32_1 := c1_ BK370 1 (.int .i64 0); have hfz32_0 := f1_ BK370 0; have hfz32_1 := f1_ BK370 1) | (go_at_call 54; (with_reducible refine (impl_isMember.calls ((rd_T73 l0_2 x8_1).f0) false _ A7.out).mono ?_); rintro e w' ⟨rfl, ⟨nd, rfl⟩⟩; (try exact d1_)))
 repeat (go_quiet (first | ((with_reducible refine gate_dst (N := 4) rfl ?_); (try (refine gate_guard (by rfl) ?_; dsimp only)); refine bx_ 4 #[.int .i64 0, .int .i64 0] 73 ?_; intro gb370 hg w30 hbox hb; have GW370 := b6_ hg HB; have GE370 := b6_ hg HB; have NB366_370 := b4_ hg BK366; have NB370_366 := b5_ hg BK366; replace BK366 := b3_ BK366 hb; replace HB := A_ (below_step (y1_ HB.out) hb); have BK370 := A_ (hbox); clear hb hbox hg; have hnb31 := NB370_366.out; have hnc31 := NB366_370.out; have hcz32_0 := c1_ BK370 0 (.int .i64 0); have hcz32_1 := c1_ BK370 1 (.int .i64 0); have hfz32_0 := f1_ BK370 0; have hfz32_1 := f1_ BK370 1) | (go_at_call 54; (with_reducible refine (impl_isMember.calls ((rd_T73 l0_2 x8_1).f0) false _ A7.out).mono ?_); rintro e w' ⟨rfl, ⟨nd, rfl⟩⟩; (try exact d1_))); try go_wp2_with (first | ((with_reducible refine gate_dst (N := 4) rfl ?_); (try (refine gate_guard (by rfl) ?_; dsimp only)); refine bx_ 4 #[.int .i64 0, .int .i64 0] 73 ?_; intro gb370 hg w30 hbox hb; have GW370 := b6_ hg HB; have GE370 := b6_ hg HB; have NB366_370 := b4_ hg BK366; have NB370_366 := b5_ hg BK366; replace BK366 := b3_ BK366 hb; replace HB := A_ (below_step (y1_ HB.out) hb); have BK370 := A_ (hbox); clear hb hbox hg; have hnb31 := NB370_366.out; have hnc31 := NB366_370.out; have hcz32_0 := c1_ BK370 0 (.int .i64 0); have hcz32_1 := c1_ BK370 1 (.int .i64 0); have hfz32_0 := f1_ BK370 0; have hfz32_1 := f1_ BK370 1) | (go_at_call 54; (with_reducible refine (impl_isMember.calls ((rd_T73 l0_2 x8_1).f0) false _ A7.out).mono ?_); rintro e w' ⟨rfl, ⟨nd, rfl⟩⟩; (try exact d1_))))
 go_ret
 exact ⟨e1_, by repeat (first | (with_reducible first | exact HB.out | apply below_alloc | apply pw_below_drewN | apply below_drew1 | refine below_set ?_ GE370.out) | exact HB.out)⟩}}
 {
 rw [if_neg c6] at H
 exact absurd H (by simp)}}
 {
 rw [if_neg c5] at H
 exact absurd H (by simp)}}
 {
 rw [if_neg c4] at H
 have c4b0 : decide (x8_1 < (l0_2.length : Int)) = false := decide_eq_false c4
 clear c4
 replace H := Option.bind_eq_some_iff.mp H
 obtain ⟨t367, A330, H⟩ := H
 replace H : (if t367 = true then ((impl_leasesOk.f k1 l0_1).bind fun t368 => (if t368 = true then (some (decide ((l0_2.length : Int) ≤ 30))) else (some false))) else (some false)) = some r := H
 have A33 := A_ A330
 clear A330
 by_cases c34 : t367 = true
 {
 subst c34
 have H1 : ((impl_leasesOk.f k1 l0_1).bind fun t368 => (if t368 = true then (some (decide ((l0_2.length : Int) ≤ 30))) else (some false))) = some r := by rw [if_pos rfl] at H; exact H
 clear H
 have H := H1
 clear H1
 replace H := Option.bind_eq_some_iff.mp H
 obtain ⟨t368, A350, H⟩ := H
 replace H : (if t368 = true then (some (decide ((l0_2.length : Int) ≤ 30))) else (some false)) = some r := H
 have A35 := A_ A350
 clear A350
 by_cases c36 : t368 = true
 {
 subst c36
 have H1 : (some (decide ((l0_2.length : Int) ≤ 30))) = some r := by rw [if_pos rfl] at H; exact H
 clear H
 have H := H1
 clear H1
 obtain rfl := Option.some.inj H
 have hcz37_0 := c1_ BK366 0 (.slice A0_0 l0_0.length c0_0)
 have hcz37_1 := c1_ BK366 1 (.slice A0_1 l0_1.length c0_1)
 have hcz37_2 := c1_ BK366 2 (.slice A0_2 l0_2.length c0_2)
 have hfz37_0 := f1_ BK366 0
 have hfz37_1 := f1_ BK366 1
 have hfz37_2 := f1_ BK366 2
 go_wp2_with (first | (go_at_call 55; (with_reducible refine (impl_leasesOk.calls k1 _ _ l0_0 true _ ?side1 ?side2 A33.out).mono ?_); (case side1 => exact y2_ (Kd.C_below HR0_0.out HB.out)); (case side2 => exact HC0_0.out); rintro e w38 ⟨rfl, hb⟩; replace BK366 := b3_ BK366 hb; replace HB := A_ (below_step (y1_ HB.out) hb); (try clear hb); (try clear hb2); (try clear hk); (try clear hi); have hcz39_0 := c1_ BK366 0 (.slice A0_0 l0_0.length c0_0); have hcz39_1 := c1_ BK366 1 (.slice A0_1 l0_1.length c0_1); have hcz39_2 := c1_ BK366 2 (.slice A0_2 l0_2.length c0_2); have hfz39_0 := f1_ BK366 0; have hfz39_1 := f1_ BK366 1; have hfz39_2 := f1_ BK366 2) | (go_at_call 55; (with_reducible refine (impl_leasesOk.calls k1 _ _ l0_1 true _ ?side1 ?side2 A35.out).mono ?_); (case side1 => exact y2_ (Kd.C_below HR0_1.out HB.out)); (case side2 => exact HC0_1.out); rintro e w40 ⟨rfl, hb⟩; replace BK366 := b3_ BK366 hb; replace HB := A_ (below_step (y1_ HB.out) hb); (try clear hb); (try clear hb2); (try clear hk); (try clear hi); have hcz41_0 := c1_ BK366 0 (.slice A0_0 l0_0.length c0_0); have hcz41_1 := c1_ BK366 1 (.slice A0_1 l0_1.length c0_1); have hcz41_2 := c1_ BK366 2 (.slice A0_2 l0_2.length c0_2); have hfz41_0 := f1_ BK366 0; have hfz41_1 := f1_ BK366 1; have hfz41_2 := f1_ BK366 2))
 repeat (go_quiet (first | (go_at_call 55; (with_reducible refine (impl_leasesOk.calls k1 _ _ l0_0 true _ ?side1 ?side2 A33.out).mono ?_); (case side1 => exact y2_ (Kd.C_below HR0_0.out HB.out)); (case side2 => exact HC0_0.out); rintro e w38 ⟨rfl, hb⟩; replace BK366 := b3_ BK366 hb; replace HB := A_ (below_step (y1_ HB.out) hb); (try clear hb); (try clear hb2); (try clear hk); (try clear hi); have hcz39_0 := c1_ BK366 0 (.slice A0_0 l0_0.length c0_0); have hcz39_1 := c1_ BK366 1 (.slice A0_1 l0_1.length c0_1); have hcz39_2 := c1_ BK366 2 (.slice A0_2 l0_2.length c0_2); have hfz39_0 := f1_ BK366 0; have hfz39_1 := f1_ BK366 1; have hfz39_2 := f1_ BK366 2) | (go_at_call 55; (with_reducible refine (impl_leasesOk.calls k1 _ _ l0_1 true _ ?side1 ?side2 A35.out).mono ?_); (case side1 => exact y2_ (Kd.C_below HR0_1.out HB.out)); (case side2 => exact HC0_1.out); rintro e w40 ⟨rfl, hb⟩; replace BK366 := b3_ BK366 hb; replace HB := A_ (below_step (y1_ HB.out) hb); (try clear hb); (try clear hb2); (try clear hk); (try clear hi); have hcz41_0 := c1_ BK366 0 (.slice A0_0 l0_0.length c0_0); have hcz41_1 := c1_ BK366 1 (.slice A0_1 l0_1.length c0_1); have hcz41_2 := c1_ BK366 2 (.slice A0_2 l0_2.length c0_2); have hfz41_0 := f1_ BK366 0; have hfz41_1 := f1_ BK366 1; have hfz41_2 := f1_ BK366 2)); try go_wp2_with (first | (go_at_call 55; (with_reducible refine (impl_leasesOk.calls k1 _ _ l0_0 true _ ?side1 ?side2 A33.out).mono ?_); (case side1 => exact y2_ (Kd.C_below HR0_0.out HB.out)); (case side2 => exact HC0_0.out); rintro e w38 ⟨rfl, hb⟩; replace BK366 := b3_ BK366 hb; replace HB := A_ (below_step (y1_ HB.out) hb); (try clear hb); (try clear hb2); (try clear hk); (try clear hi); have hcz39_0 := c1_ BK366 0 (.slice A0_0 l0_0.length c0_0); have hcz39_1 := c1_ BK366 1 (.slice A0_1 l0_1.length c0_1); have hcz39_2 := c1_ BK366 2 (.slice A0_2 l0_2.length c0_2); have hfz39_0 := f1_ BK366 0; have hfz39_1 := f1_ BK366 1; have hfz39_2 := f1_ BK366 2) | (go_at_call 55; (with_reducible refine (impl_leasesOk.calls k1 _ _ l0_1 true _ ?side1 ?side2 A35.out).mono ?_); (case side1 => exact y2_ (Kd.C_below HR0_1.out HB.out)); (case side2 => exact HC0_1.out); rintro e w40 ⟨rfl, hb⟩; replace BK366 := b3_ BK366 hb; replace HB := A_ (below_step (y1_ HB.out) hb); (try clear hb); (try clear hb2); (try clear hk); (try clear hi); have hcz41_0 := c1_ BK366 0 (.slice A0_0 l0_0.length c0_0); have hcz41_1 := c1_ BK366 1 (.slice A0_1 l0_1.length c0_1); have hcz41_2 := c1_ BK366 2 (.slice A0_2 l0_2.length c0_2); have hfz41_0 := f1_ BK366 0; have hfz41_1 := f1_ BK366 1; have hfz41_2 := f1_ BK366 2)))
 go_ret
 exact ⟨e1_, y1_ HB.out⟩}
 {
 replace c36 := Bool.eq_false_iff.mpr c36
 subst c36
 have H1 : (some false) = some r := by rw [if_neg (show ¬ (false = true) by decide)] at H; exact H
 clear H
 have H := H1
 clear H1
 obtain rfl := Option.some.inj H
 have hcz42_0 := c1_ BK366 0 (.slice A0_0 l0_0.length c0_0)
 have hcz42_1 := c1_ BK366 1 (.slice A0_1 l0_1.length c0_1)
 have hcz42_2 := c1_ BK366 2 (.slice A0_2 l0_2.length c0_2)
 have hfz42_0 := f1_ BK366 0
 have hfz42_1 := f1_ BK366 1
 have hfz42_2 := f1_ BK366 2
 go_wp2_with (first | (go_at_call 55; (with_reducible refine (impl_leasesOk.calls k1 _ _ l0_0 true _ ?side1 ?side2 A33.out).mono ?_); (case side1 => exact y2_ (Kd.C_below HR0_0.out HB.out)); (case side2 => exact HC0_0.out); rintro e w43 ⟨rfl, hb⟩; replace BK366 := b3_ BK366 hb; replace HB := A_ (below_step (y1_ HB.out) hb); (try clear hb); (try clear hb2); (try clear hk); (try clear hi); have hcz44_0 := c1_ BK366 0 (.slice A0_0 l0_0.length c0_0); have hcz44_1 := c1_ BK366 1 (.slice A0_1 l0_1.length c0_1); have hcz44_2 := c1_ BK366 2 (.slice A0_2 l0_2.length c0_2); have hfz44_0 := f1_ BK366 0; have hfz44_1 := f1_ BK366 1; have hfz44_2 := f1_ BK366 2) | (go_at_call 55; (with_reducible refine (impl_leasesOk.calls k1 _ _ l0_1 false _ ?side1 ?side2 A35.out).mono ?_); (case side1 => exact y2_ (Kd.C_below HR0_1.out HB.out)); (case side2 => exact HC0_1.out); rintro e w45 ⟨rfl, hb⟩; replace BK366 := b3_ BK366 hb; replace HB := A_ (below_step (y1_ HB.out) hb); (try clear hb); (try clear hb2); (try clear hk); (try clear hi)))
 repeat (go_quiet (first | (go_at_call 55; (with_reducible refine (impl_leasesOk.calls k1 _ _ l0_0 true _ ?side1 ?side2 A33.out).mono ?_); (case side1 => exact y2_ (Kd.C_below HR0_0.out HB.out)); (case side2 => exact HC0_0.out); rintro e w43 ⟨rfl, hb⟩; replace BK366 := b3_ BK366 hb; replace HB := A_ (below_step (y1_ HB.out) hb); (try clear hb); (try clear hb2); (try clear hk); (try clear hi); have hcz44_0 := c1_ BK366 0 (.slice A0_0 l0_0.length c0_0); have hcz44_1 := c1_ BK366 1 (.slice A0_1 l0_1.length c0_1); have hcz44_2 := c1_ BK366 2 (.slice A0_2 l0_2.length c0_2); have hfz44_0 := f1_ BK366 0; have hfz44_1 := f1_ BK366 1; have hfz44_2 := f1_ BK366 2) | (go_at_call 55; (with_reducible refine (impl_leasesOk.calls k1 _ _ l0_1 false _ ?side1 ?side2 A35.out).mono ?_); (case side1 => exact y2_ (Kd.C_below HR0_1.out HB.out)); (case side2 => exact HC0_1.out); rintro e w45 ⟨rfl, hb⟩; replace BK366 := b3_ BK366 hb; replace HB := A_ (below_step (y1_ HB.out) hb); (try clear hb); (try clear hb2); (try clear hk); (try clear hi))); try go_wp2_with (first | (go_at_call 55; (with_reducible refine (impl_leasesOk.calls k1 _ _ l0_0 true _ ?side1 ?side2 A33.out).mono ?_); (case side1 => exact y2_ (Kd.C_below HR0_0.out HB.out)); (case side2 => exact HC0_0.out); rintro e w43 ⟨rfl, hb⟩; replace BK366 := b3_ BK366 hb; replace HB := A_ (below_step (y1_ HB.out) hb); (try clear hb); (try clear hb2); (try clear hk); (try clear hi); have hcz44_0 := c1_ BK366 0 (.slice A0_0 l0_0.length c0_0); have hcz44_1 := c1_ BK366 1 (.slice A0_1 l0_1.length c0_1); have hcz44_2 := c1_ BK366 2 (.slice A0_2 l0_2.length c0_2); have hfz44_0 := f1_ BK366 0; have hfz44_1 := f1_ BK366 1; have hfz44_2 := f1_ BK366 2) | (go_at_call 55; (with_reducible refine (impl_leasesOk.calls k1 _ _ l0_1 false _ ?side1 ?side2 A35.out).mono ?_); (case side1 => exact y2_ (Kd.C_below HR0_1.out HB.out)); (case side2 => exact HC0_1.out); rintro e w45 ⟨rfl, hb⟩; replace BK366 := b3_ BK366 hb; replace HB := A_ (below_step (y1_ HB.out) hb); (try clear hb); (try clear hb2); (try clear hk); (try clear hi))))
 go_ret
 exact ⟨e1_, y1_ HB.out⟩}}
 {
 replace c34 := Bool.eq_false_iff.mpr c34
 subst c34
 have H1 : (some false) = some r := by rw [if_neg (show ¬ (false = true) by decide)] at H; exact H
 clear H
 have H := H1
 clear H1
 obtain rfl := Option.some.inj H
 have hcz46_0 := c1_ BK366 0 (.slice A0_0 l0_0.length c0_0)
 have hcz46_1 := c1_ BK366 1 (.slice A0_1 l0_1.length c0_1)
 have hcz46_2 := c1_ BK366 2 (.slice A0_2 l0_2.length c0_2)
 have hfz46_0 := f1_ BK366 0
 have hfz46_1 := f1_ BK366 1
 have hfz46_2 := f1_ BK366 2
 go_wp2_with (first | (go_at_call 55; (with_reducible refine (impl_leasesOk.calls k1 _ _ l0_0 false _ ?side1 ?side2 A33.out).mono ?_); (case side1 => exact y2_ (Kd.C_below HR0_0.out HB.out)); (case side2 => exact HC0_0.out); rintro e w47 ⟨rfl, hb⟩; replace BK366 := b3_ BK366 hb; replace HB := A_ (below_step (y1_ HB.out) hb); (try clear hb); (try clear hb2); (try clear hk); (try clear hi)))
 repeat (go_quiet (first | (go_at_call 55; (with_reducible refine (impl_leasesOk.calls k1 _ _ l0_0 false _ ?side1 ?side2 A33.out).mono ?_); (case side1 => exact y2_ (Kd.C_below HR0_0.out HB.out)); (case side2 => exact HC0_0.out); rintro e w47 ⟨rfl, hb⟩; replace BK366 := b3_ BK366 hb; replace HB := A_ (below_step (y1_ HB.out) hb); (try clear hb); (try clear hb2); (try clear hk); (try clear hi))); try go_wp2_with (first | (go_at_call 55; (with_reducible refine (impl_leasesOk.calls k1 _ _ l0_0 false _ ?side1 ?side2 A33.out).mono ?_); (case side1 => exact y2_ (Kd.C_below HR0_0.out HB.out)); (case side2 => exact HC0_0.out); rintro e w47 ⟨rfl, hb⟩; replace BK366 := b3_ BK366 hb; replace HB := A_ (below_step (y1_ HB.out) hb); (try clear hb); (try clear hb2); (try clear hk); (try clear hi))))
 go_ret
 exact ⟨e1_, y1_ HB.out⟩}}}}

/-! ### impl_membersOf: function 47 -/
abbrev impl_membersOf.T : Bool := true
abbrev impl_membersOf.F : Bool := false
def impl_membersOf.l0 : Nat → Int → List Int → List (S63) → Int → Int → Option (List Int)
  | 0, _, _, _, _, _ => none
  | k + 1, x1, x5, x9, x10, x11 => if x11 < x10 then (if 0 ≤ x11 then (if x11 < (x9.length : Int) then (if ((rd_T63 x9 x11).f1) > x1 then (if x5.length < 17592186044416 then (impl_membersOf.l0 k x1 (x5 ++ [(rd_T63 x9 x11).f0]) x9 x10 (wrap64 (x11 + 1))) else (none)) else (impl_membersOf.l0 k x1 x5 x9 x10 (wrap64 (x11 + 1)))) else (none)) else (none)) else (some x5)
def impl_membersOf.f (k : Nat) (l0 : List (S63)) (a1 : Int) : Option (List Int) := impl_membersOf.l0 k a1 (([] : List Int)) l0 (l0.length : Int) 0
theorem impl_membersOf.mono_l : ∀ k, (∀ y0 y1 y2 y3 y4, LeO (impl_membersOf.l0 k y0 y1 y2 y3 y4) (impl_membersOf.l0 (k + 1) y0 y1 y2 y3 y4))
  | 0 => fun _ _ _ _ _ r h => by simp [impl_membersOf.l0] at h
  | k + 1 => by
    have ih0 := impl_membersOf.mono_l k
    · intro y0 y1 y2 y3 y4
      unfold impl_membersOf.l0
      repeat' first
      | (with_reducible exact ih0 _ _ _ _ _)
      | (with_reducible exact LeO.refl _)
      | (with_reducible exact LeO.none _)
      | (with_reducible refine LeO.ite ?_ ?_)
      | (with_reducible refine LeO.bind ?_ (fun _ => ?_))
      | exact ih0 _ _ _ _ _
      | exact LeO.none _
      | refine LeO.ite ?_ ?_
      | refine LeO.bind ?_ (fun _ => ?_)
theorem impl_membersOf.mono : ∀ a0 a1 k, LeO (impl_membersOf.f k a0 a1) (impl_membersOf.f (k + 1) a0 a1) := by
  intro a0 a1 k
  have ih0 := impl_membersOf.mono_l k
  unfold impl_membersOf.f
  repeat' first
      | (with_reducible exact ih0 _ _ _ _ _)
      | (with_reducible exact LeO.refl _)
      | (with_reducible exact LeO.none _)
      | (with_reducible refine LeO.ite ?_ ?_)
      | (with_reducible refine LeO.bind ?_ (fun _ => ?_))
      | exact ih0 _ _ _ _ _
      | exact LeO.none _
      | refine LeO.ite ?_ ?_
      | refine LeO.bind ?_ (fun _ => ?_)
set_option maxHeartbeats 8000000 in
set_option maxRecDepth 100000 in
theorem impl_membersOf.calls (k : Nat) (A0 : Option Addr) (c0 : Nat) (l0 : List (S63)) (a1 : Int) (r : List Int) (w : World) (hr0 : Kd.C k63 w A0 l0.length l0) (hc0 : l0.length ≤ c0) (h : impl_membersOf.f k l0 a1 = some r) :
    Calls Try.prog 47 #[.slice A0 l0.length c0, .int .i64 a1] w fun e w' => ∃ v0_ : Value, e = .returned (v0_) ∧ Kd.R (Kd.int .i64) 2 w' w.heap.size (fun _ => True) v0_ r ∧ Below w.heap.size w w' := by
 have hu63 := Try.underlying63
 have HR0 := A_ hr0
 have HC0 := A_ hc0
 clear hr0 hc0
 have HB := A_ (Below.refl w.heap.size w)
 have H : (impl_membersOf.l0 k a1 (([] : List Int)) l0 (l0.length : Int) 0) = some r := h
 clear h
 obtain ⟨y374, hy374⟩ : ∃ y_ : List Int, y_ = (([] : List Int)) := ⟨_, rfl⟩
 replace H : (impl_membersOf.l0 k a1 y374 l0 (l0.length : Int) 0) = some r := by first | (rw [hy374]; with_reducible exact H) | (have H2_ := (Option.bind_some _ _).symm.trans H; rw [hy374]; with_reducible exact H2_) | (have H2_ := (Option.bind_some _ _).symm.trans H; with_reducible exact H2_) | with_reducible exact H | (rw [hy374]; exact H) | exact H
 have Ny374 := A_ hy374
 clear hy374
 have H' := A_ H
 clear H
 go_enter Try.func47, Try.ntmps47
 go_wp2_with (first | ((with_reducible refine gate_dst (N := 8) rfl ?_); refine Kd.R_lit (Kd.int .i64) _ 2 ?hg (N := 8) ?hd (xs := ([] : List Int)) (inner := []) (ok := fun _ => True) (okp := fun _ => True) ?hr ?hp (fun _ hk => hk) trivial (Below.refl _ _) (Nat.le_refl _) (by simp) ?_; (case hd => rfl); (case hg => rfl); (case hr => first | (go_simp; done) | (go_simp; rfl)); (case hp => exact (Reps.none _ _)); intro v375 w3 ho4 hb hg_ hnew_; clear hg_ hnew_; (first | rw [← Ny374.out] at ho4 | (simp only [Int.reduceToNat] at ho4; rw [← Ny374.out] at ho4)); have HO376 := A_ (Kd.R_lower ho4 (below_size (y1_ HB.out))); replace HB := A_ (below_step (y1_ HB.out) hb); clear hb ho4))
 go_loopg [5, 11] k (fun kq v5 v11 w' => ∃ (x5_1 : List Int) (x11_1 : Int), v11 = .int .i64 x11_1 ∧ Aside0 (impl_membersOf.l0 kq a1 x5_1 l0 (l0.length : Int) x11_1 = some r) ∧ Aside0 (kq ≤ k) ∧ Aside0 (Kd.R (Kd.int .i64) 2 w' w.heap.size (fun _ => True) v5 x5_1) ∧ Aside0 (Below w.heap.size w w'))
 case atStart => exact ⟨(y374), (0), s1_, H', ⟨Nat.le_refl _⟩, ⟨b2_ HO376.out⟩, ⟨y1_ HB.out⟩⟩
 case round =>
  skip
  {
 clear H'
 try clear p2
 try clear c4
 obtain ⟨x5_1, x11_1, rfl, HA, HK1, HO_5, HB⟩ := hrel
 cases gk with
 | zero => exact absurd HA.out (by simp [impl_membersOf.l0])
 | succ k1 =>
  skip
  {
 have H := HA.out
 clear HA
 simp only [impl_membersOf.l0] at H
 by_cases c5 : x11_1 < (l0.length : Int)
 {
 rw [if_pos c5] at H
 have c5b0 : decide (x11_1 < (l0.length : Int)) = true := decide_eq_true c5
 clear c5
 by_cases c6 : 0 ≤ x11_1
 {
 rw [if_pos c6] at H
 have c6b0 : decide (0 ≤ x11_1) = true := decide_eq_true c6
 clear c6
 by_cases c7 : x11_1 < (l0.length : Int)
 {
 rw [if_pos c7] at H
 have c7b0 : decide (x11_1 < (l0.length : Int)) = true := decide_eq_true c7
 clear c7
 by_cases c8 : ((rd_T63 l0 x11_1).f1) > a1
 {
 rw [if_pos c8] at H
 have c8b0 : decide (a1 < ((rd_T63 l0 x11_1).f1)) = true := decide_eq_true c8
 clear c8
 by_cases c9 : x5_1.length < 17592186044416
 {
 rw [if_pos c9] at H
 have LMc9 := A_ c9
 clear c9
 obtain ⟨y379, hy379⟩ : ∃ y_ : List Int, y_ = (x5_1 ++ [(rd_T63 l0 x11_1).f0]) := ⟨_, rfl⟩
 replace H : (impl_membersOf.l0 k1 a1 y379 l0 (l0.length : Int) (wrap64 (x11_1 + 1))) = some r := by first | (rw [hy379]; with_reducible exact H) | (have H2_ := (Option.bind_some _ _).symm.trans H; rw [hy379]; with_reducible exact H2_) | (have H2_ := (Option.bind_some _ _).symm.trans H; with_reducible exact H2_) | with_reducible exact H | (rw [hy379]; exact H) | exact H
 have Ny379 := A_ hy379
 clear hy379
 have H' := A_ H
 clear H
 have p377 : 0 ≤ (x11_1 : Int) := o1_
 have q377 : x11_1 < (l0.length : Int) := o1_
 obtain ⟨ad377, e377, hx377_0, hx377_1⟩ := at_T63 HR0.out x11_1 p377 q377
 cases e377
 replace hx377_0 := (HB.out.cell (World.block_lt_of_cell? w _ hx377_0)).trans hx377_0
 replace hx377_1 := (HB.out.cell (World.block_lt_of_cell? w _ hx377_1)).trans hx377_1
 replace p377 := eq_true p377
 replace q377 := eq_true q377
 go_wp2_with (first | ((with_reducible refine gate_dst (N := 7) rfl ?_); refine box_event ?hg (N := 7) ?hd (cs := #[.int .i64 0, .int .i64 0]) (t := 63) ?hr ?_; (case hd => rfl); (case hg => rfl); (case hr => first | (go_simp; done) | (go_simp; rfl)); intro gb378 hg w10 hbox hb; have GW378 := b6_ hg HB; have GE378 := b6_ hg HB; replace HO_5 := A_ (Kd.R_below (b2_ HO_5.out) hb); replace HB := A_ (below_step (y1_ HB.out) hb); have BK378 := A_ (hbox); clear hb hbox hg; have hcz11_0 := c1_ BK378 0 (.int .i64 0); have hcz11_1 := c1_ BK378 1 (.int .i64 0); have hfz11_0 := blk_frozen BK378.out 0; have hfz11_1 := blk_frozen BK378.out 1) | ((with_reducible refine gate_builtin (b := .append) (xs := #[.tmp 19, .tmp 22]) rfl ?_); at_builtin; refine Kd.R_append (Kd.int .i64) (w0 := w) w.heap.size rfl (.tmp 19) (.tmp 22) 32 2 (.int .i64 0) 8 rfl Try.underlying32 info2 rfl (by decide) (by omega) u5 x5_1 ((rd_T63 l0 x11_1).f0) [.int .i64 ((rd_T63 l0 x11_1).f0)] (fun _ => True) (fun _ => False) rfl (by first | (go_simp; done) | (go_simp; rfl)) ?aP (fun _ hk => hk.elim) ?aF ?aO ?aB ?aS ?aL ?_; (case aP => exact rfl); (case aB => exact (by repeat (first | (with_reducible first | exact HB.out | apply below_alloc | apply pw_below_drewN | apply below_drew1 | refine below_set ?_ GE378.out) | exact HB.out))); (case aF => exact (fun _ _ => trivial)); (case aO => exact (by refine b2_ ?_; exact Kd.R_mono (Kd.R_far (p := ⟨gb378, 1, none⟩) (Kd.R_far (p := ⟨gb378, 0, none⟩) (Kd.R_types HO_5.out BK378.out (by decide)) (fun _ hk => hk.2) (.int .i64 ((rd_T63 l0 x11_1).f0))) (fun _ hk => hk.2) (.int .i64 ((rd_T63 l0 x11_1).f1))) (fun _ hk => trivial))); (case aS => exact (below_size (by repeat (first | (with_reducible first | exact HB.out | apply below_alloc | apply pw_below_drewN | apply below_drew1 | refine below_set ?_ GE378.out) | exact HB.out)))); (case aL => have := LMc9.out; omega); intro v380 w12 ho hb hg hat; rw [← Ny379.out] at ho; replace BK378 := A_ (blk_grown (g := gb378) (o := .cells #[.int .i64 ((rd_T63 l0 x11_1).f0), .int .i64 ((rd_T63 l0 x11_1).f1)] 63 (0, 0)) (by refine b1_ ?_; refine blk_put (cs := #[.int .i64 ((rd_T63 l0 x11_1).f0), .int .i64 0]) ?_ 1 _ rfl; refine b1_ ?_; refine blk_put (cs := #[.int .i64 0, .int .i64 0]) ?_ 0 _ rfl; refine b1_ ?_; exact BK378.out) hg (Kd.R_ne HO_5.out BK378.out (by decide))); replace HB := A_ (hb); have HO381 := A_ (ho); clear HO_5; clear ho hb hg hat))
 go_roundg k1
 case measure => have := HK1.out; omega
 case rel => exact ⟨(y379), (wrap64 (x11_1 + 1)), s1_, H', ⟨by have := HK1.out; omega⟩, ⟨b2_ HO381.out⟩, ⟨y1_ HB.out⟩⟩}
 {
 rw [if_neg c9] at H
 exact absurd H (by simp)}}
 {
 rw [if_neg c8] at H
 have c8b0 : decide (a1 < ((rd_T63 l0 x11_1).f1)) = false := decide_eq_false c8
 clear c8
 have H' := A_ H
 clear H
 have p377 : 0 ≤ (x11_1 : Int) := o1_
 have q377 : x11_1 < (l0.length : Int) := o1_
 obtain ⟨ad377, e377, hx377_0, hx377_1⟩ := at_T63 HR0.out x11_1 p377 q377
 cases e377
 replace hx377_0 := (HB.out.cell (World.block_lt_of_cell? w _ hx377_0)).trans hx377_0
 replace hx377_1 := (HB.out.cell (World.block_lt_of_cell? w _ hx377_1)).trans hx377_1
 replace p377 := eq_true p377
 replace q377 := eq_true q377
 go_wp2_with (first | ((with_reducible refine gate_dst (N := 7) rfl ?_); refine box_event ?hg (N := 7) ?hd (cs := #[.int .i64 0, .int .i64 0]) (t := 63) ?hr ?_; (case hd => rfl); (case hg => rfl); (case hr => first | (go_simp; done) | (go_simp; rfl)); intro gb378 hg w13 hbox hb; have GW378 := b6_ hg HB; have GE378 := b6_ hg HB; replace HO_5 := A_ (Kd.R_below (b2_ HO_5.out) hb); replace HB := A_ (below_step (y1_ HB.out) hb); have BK378 := A_ (hbox); clear hb hbox hg; have hcz14_0 := c1_ BK378 0 (.int .i64 0); have hcz14_1 := c1_ BK378 1 (.int .i64 0); have hfz14_0 := blk_frozen BK378.out 0; have hfz14_1 := blk_frozen BK378.out 1))
 go_roundg k1
 case measure => have := HK1.out; omega
 case rel => exact ⟨(x5_1), (wrap64 (x11_1 + 1)), s1_, H', ⟨by have := HK1.out; omega⟩, ⟨by refine b2_ ?_; exact Kd.R_mono (Kd.R_far (p := ⟨gb378, 1, none⟩) (Kd.R_far (p := ⟨gb378, 0, none⟩) (Kd.R_types HO_5.out BK378.out (by decide)) (fun _ hk => hk.2) (.int .i64 ((rd_T63 l0 x11_1).f0))) (fun _ hk => hk.2) (.int .i64 ((rd_T63 l0 x11_1).f1))) (fun _ hk => trivial)⟩, ⟨by repeat (first | (with_reducible first | exact HB.out | apply below_alloc | apply pw_below_drewN | apply below_drew1 | refine below_set ?_ GE378.out) | exact HB.out)⟩⟩}}
 {
 rw [if_neg c7] at H
 exact absurd H (by simp)}}
 {
 rw [if_neg c6] at H
 exact absurd H (by simp)}}
 {
 rw [if_neg c5] at H
 have c5b0 : decide (x11_1 < (l0.length : Int)) = false := decide_eq_false c5
 clear c5
 obtain rfl := Option.some.inj H
 go_wp2
 go_ret
 exact ⟨_, e1_, b2_ HO_5.out, y1_ HB.out⟩}}}

/-! ### impl_PresentAt: function 15 -/
abbrev impl_PresentAt.T : Bool := true
abbrev impl_PresentAt.F : Bool := false
def impl_PresentAt.f (k : Nat) (l0_0 : List (S63)) (l0_1 : List (S63)) (l0_2 : List (S73)) (a1 : Int) : Option (List Int × Bool) := (impl_ValidPresence.f k l0_0 l0_1 l0_2).bind fun t383 => (if t383 = true then ((impl_isTick.f a1).bind fun t384 => (if t384 = true then ((impl_membersOf.f k l0_0 a1).bind fun t385 => (some (t385, true))) else (some (([] : List Int), false)))) else (some (([] : List Int), false)))
theorem impl_PresentAt.mono : ∀ a0 a1 a2 a3 k, LeO (impl_PresentAt.f k a0 a1 a2 a3) (impl_PresentAt.f (k + 1) a0 a1 a2 a3) := by
  intro a0 a1 a2 a3 k
  unfold impl_PresentAt.f
  repeat' first
      | (with_reducible exact impl_ValidPresence.mono _ _ _ _)
      | (with_reducible exact impl_membersOf.mono _ _ _)
      | (with_reducible exact LeO.refl _)
      | (with_reducible exact LeO.none _)
      | (with_reducible refine LeO.ite ?_ ?_)
      | (with_reducible refine LeO.bind ?_ (fun _ => ?_))
      | exact impl_ValidPresence.mono _ _ _ _
      | exact impl_membersOf.mono _ _ _
      | exact LeO.none _
      | refine LeO.ite ?_ ?_
      | refine LeO.bind ?_ (fun _ => ?_)
set_option maxHeartbeats 8000000 in
set_option maxRecDepth 100000 in
theorem impl_PresentAt.calls (k : Nat) (A0_0 : Option Addr) (c0_0 : Nat) (l0_0 : List (S63)) (A0_1 : Option Addr) (c0_1 : Nat) (l0_1 : List (S63)) (A0_2 : Option Addr) (c0_2 : Nat) (l0_2 : List (S73)) (a1 : Int) (r1 : List Int) (r2 : Bool) (w : World) (hr0_0 : Kd.C k63 w A0_0 l0_0.length l0_0) (hc0_0 : l0_0.length ≤ c0_0) (hr0_1 : Kd.C k63 w A0_1 l0_1.length l0_1) (hc0_1 : l0_1.length ≤ c0_1) (hr0_2 : Kd.C k73 w A0_2 l0_2.length l0_2) (hc0_2 : l0_2.length ≤ c0_2) (h : impl_PresentAt.f k l0_0 l0_1 l0_2 a1 = some (r1, r2)) :
    Calls Try.prog 15 #[.agg #[.slice A0_0 l0_0.length c0_0, .slice A0_1 l0_1.length c0_1, .slice A0_2 l0_2.length c0_2], .int .i64 a1] w fun e w' => ∃ v0_ : Value, e = .returned (.tuple #[v0_, .bool r2]) ∧ Kd.R (Kd.int .i64) 2 w' w.heap.size (fun _ => True) v0_ r1 ∧ Below w.heap.size w w' := by
 have hu27 := Try.underlying27
 have HR0_0 := A_ hr0_0
 have HC0_0 := A_ hc0_0
 clear hr0_0 hc0_0
 have HR0_1 := A_ hr0_1
 have HC0_1 := A_ hc0_1
 clear hr0_1 hc0_1
 have HR0_2 := A_ hr0_2
 have HC0_2 := A_ hc0_2
 clear hr0_2 hc0_2
 have HB := A_ (Below.refl w.heap.size w)
 have H : ((impl_ValidPresence.f k l0_0 l0_1 l0_2).bind fun t383 => (if t383 = true then ((impl_isTick.f a1).bind fun t384 => (if t384 = true then ((impl_membersOf.f k l0_0 a1).bind fun t385 => (some (t385, true))) else (some (([] : List Int), false)))) else (some (([] : List Int), false)))) = some (r1, r2) := h
 clear h
 replace H := Option.bind_eq_some_iff.mp H
 obtain ⟨t383, A30, H⟩ := H
 replace H : (if t383 = true then ((impl_isTick.f a1).bind fun t384 => (if t384 = true then ((impl_membersOf.f k l0_0 a1).bind fun t385 => (some (t385, true))) else (some (([] : List Int), false)))) else (some (([] : List Int), false))) = some (r1, r2) := H
 have A3 := A_ A30
 clear A30
 by_cases c4 : t383 = true
 {
 subst c4
 have H1 : ((impl_isTick.f a1).bind fun t384 => (if t384 = true then ((impl_membersOf.f k l0_0 a1).bind fun t385 => (some (t385, true))) else (some (([] : List Int), false)))) = some (r1, r2) := by rw [if_pos rfl] at H; exact H
 clear H
 have H := H1
 clear H1
 replace H := Option.bind_eq_some_iff.mp H
 obtain ⟨t384, A50, H⟩ := H
 replace H : (if t384 = true then ((impl_membersOf.f k l0_0 a1).bind fun t385 => (some (t385, true))) else (some (([] : List Int), false))) = some (r1, r2) := H
 have A5 := A_ A50
 clear A50
 by_cases c6 : t384 = true
 {
 subst c6
 have H1 : ((impl_membersOf.f k l0_0 a1).bind fun t385 => (some (t385, true))) = some (r1, r2) := by rw [if_pos rfl] at H; exact H
 clear H
 have H := H1
 clear H1
 replace H := Option.bind_eq_some_iff.mp H
 obtain ⟨t385, A70, H⟩ := H
 replace H : (some (t385, true)) = some (r1, r2) := H
 have A7 := A_ A70
 clear A70
 simp only [Option.some.injEq, Prod.mk.injEq] at H
 obtain ⟨rfl, rfl⟩ := H
 go_enter Try.func15, Try.ntmps15
 go_wp2_with (first | ((with_reducible refine gate_dst (N := 2) rfl ?_); refine bx_ 2 #[.slice A0_0 l0_0.length c0_0, .slice A0_1 l0_1.length c0_1, .slice A0_2 l0_2.length c0_2] 27 ?_; intro gb382 hg w8 hbox hb; have GW382 := b6_ hg HB; have GE382 := b6_ hg HB; replace HB := A_ (below_step (y1_ HB.out) hb); have BK382 := A_ (hbox); clear hb hbox hg; have hcz9_0 := c1_ BK382 0 (.slice A0_0 l0_0.length c0_0); have hcz9_1 := c1_ BK382 1 (.slice A0_1 l0_1.length c0_1); have hcz9_2 := c1_ BK382 2 (.slice A0_2 l0_2.length c0_2); have hfz9_0 := f1_ BK382 0; have hfz9_1 := f1_ BK382 1; have hfz9_2 := f1_ BK382 2) | ((with_reducible refine gate_callee (f := 19) rfl ?_); refine goesL_ (some 7) rfl rfl Try.func19 s2_ rfl #[.agg #[.slice A0_0 l0_0.length c0_0, .slice A0_1 l0_1.length c0_1, .slice A0_2 l0_2.length c0_2]] rfl s3_ ?_; (with_reducible refine (impl_ValidPresence.calls k _ _ l0_0 _ _ l0_1 _ _ l0_2 true _ ?side1 ?side2 ?side3 ?side4 ?side5 ?side6 A3.out).mono ?_); (case side1 => exact y2_ (Kd.C_below HR0_0.out HB.out)); (case side2 => exact HC0_0.out); (case side3 => exact y2_ (Kd.C_below HR0_1.out HB.out)); (case side4 => exact HC0_1.out); (case side5 => exact y2_ (Kd.C_below HR0_2.out HB.out)); (case side6 => exact HC0_2.out); rintro e w10 ⟨rfl, hb⟩; refine ⟨_, rfl, ?_⟩; replace BK382 := b3_ BK382 hb; replace HB := A_ (below_step (y1_ HB.out) hb); (try clear hb); (try clear hb2); (try clear hk); (try clear hi)) | (go_at_call 45; (with_reducible refine (impl_isTick.calls a1 true _ A5.out).mono ?_); rintro e w' ⟨rfl, ⟨nd, rfl⟩⟩; have hcz11_0 := c1_ BK382 0 (.slice A0_0 l0_0.length c0_0); have hcz11_1 := c1_ BK382 1 (.slice A0_1 l0_1.length c0_1); have hcz11_2 := c1_ BK382 2 (.slice A0_2 l0_2.length c0_2); have hfz11_0 := f1_ BK382 0; have hfz11_1 := f1_ BK382 1; have hfz11_2 := f1_ BK382 2) | ((with_reducible refine gate_callee (f := 47) rfl ?_); refine goesL_ (some 17) rfl rfl Try.func47 s2_ rfl #[.slice A0_0 l0_0.length c0_0, .int .i64 a1] rfl s3_ ?_; (with_reducible refine (impl_membersOf.calls k _ _ l0_0 a1 t385 _ ?side1 ?side2 A7.out).mono ?_); (case side1 => exact y2_ (Kd.C_below HR0_0.out (y1_ HB.out))); (case side2 => exact HC0_0.out); rintro e w12 ⟨v386, rfl, ho0, hb⟩; refine ⟨_, rfl, ?_⟩; have HO387 := A_ (Kd.R_lower ho0 (below_size (y1_ HB.out))); replace BK382 := b3_ BK382 hb; replace HB := A_ (below_step (y1_ HB.out) hb); (try clear hb); (try clear hb2); (try clear hk); (try clear hi); (try clear ho0)))
 go_ret2
 exact ⟨_, e1_, b2_ HO387.out, y1_ HB.out⟩}
 {
 replace c6 := Bool.eq_false_iff.mpr c6
 subst c6
 have H1 : (some (([] : List Int), false)) = some (r1, r2) := by rw [if_neg (show ¬ (false = true) by decide)] at H; exact H
 clear H
 have H := H1
 clear H1
 simp only [Option.some.injEq, Prod.mk.injEq] at H
 obtain ⟨rfl, rfl⟩ := H
 go_enter Try.func15, Try.ntmps15
 go_wp2_with (first | ((with_reducible refine gate_dst (N := 2) rfl ?_); refine bx_ 2 #[.slice A0_0 l0_0.length c0_0, .slice A0_1 l0_1.length c0_1, .slice A0_2 l0_2.length c0_2] 27 ?_; intro gb382 hg w13 hbox hb; have GW382 := b6_ hg HB; have GE382 := b6_ hg HB; replace HB := A_ (below_step (y1_ HB.out) hb); have BK382 := A_ (hbox); clear hb hbox hg; have hcz14_0 := c1_ BK382 0 (.slice A0_0 l0_0.length c0_0); have hcz14_1 := c1_ BK382 1 (.slice A0_1 l0_1.length c0_1); have hcz14_2 := c1_ BK382 2 (.slice A0_2 l0_2.length c0_2); have hfz14_0 := f1_ BK382 0; have hfz14_1 := f1_ BK382 1; have hfz14_2 := f1_ BK382 2) | ((with_reducible refine gate_callee (f := 19) rfl ?_); refine goesL_ (some 7) rfl rfl Try.func19 s2_ rfl #[.agg #[.slice A0_0 l0_0.length c0_0, .slice A0_1 l0_1.length c0_1, .slice A0_2 l0_2.length c0_2]] rfl s3_ ?_; (with_reducible refine (impl_ValidPresence.calls k _ _ l0_0 _ _ l0_1 _ _ l0_2 true _ ?side1 ?side2 ?side3 ?side4 ?side5 ?side6 A3.out).mono ?_); (case side1 => exact y2_ (Kd.C_below HR0_0.out HB.out)); (case side2 => exact HC0_0.out); (case side3 => exact y2_ (Kd.C_below HR0_1.out HB.out)); (case side4 => exact HC0_1.out); (case side5 => exact y2_ (Kd.C_below HR0_2.out HB.out)); (case side6 => exact HC0_2.out); rintro e w15 ⟨rfl, hb⟩; refine ⟨_, rfl, ?_⟩; replace BK382 := b3_ BK382 hb; replace HB := A_ (below_step (y1_ HB.out) hb); (try clear hb); (try clear hb2); (try clear hk); (try clear hi)) | (go_at_call 45; (with_reducible refine (impl_isTick.calls a1 false _ A5.out).mono ?_); rintro e w' ⟨rfl, ⟨nd, rfl⟩⟩))
 go_ret2
 exact ⟨_, e1_, by first | exact Kd.R_nil _ _ _ _ _ | exact Kd.N_nil _ _ _ _ _ | exact Kd.V_nil _ _ _ _ _ | exact Kd.Q_nil _ _ _ _ _ | exact Kd.S_nil _ _ _ _ _, y1_ HB.out⟩}}
 {
 replace c4 := Bool.eq_false_iff.mpr c4
 subst c4
 have H1 : (some (([] : List Int), false)) = some (r1, r2) := by rw [if_neg (show ¬ (false = true) by decide)] at H; exact H
 clear H
 have H := H1
 clear H1
 simp only [Option.some.injEq, Prod.mk.injEq] at H
 obtain ⟨rfl, rfl⟩ := H
 go_enter Try.func15, Try.ntmps15
 go_wp2_with (first | ((with_reducible refine gate_dst (N := 2) rfl ?_); refine bx_ 2 #[.slice A0_0 l0_0.length c0_0, .slice A0_1 l0_1.length c0_1, .slice A0_2 l0_2.length c0_2] 27 ?_; intro gb382 hg w16 hbox hb; have GW382 := b6_ hg HB; have GE382 := b6_ hg HB; replace HB := A_ (below_step (y1_ HB.out) hb); have BK382 := A_ (hbox); clear hb hbox hg; have hcz17_0 := c1_ BK382 0 (.slice A0_0 l0_0.length c0_0); have hcz17_1 := c1_ BK382 1 (.slice A0_1 l0_1.length c0_1); have hcz17_2 := c1_ BK382 2 (.slice A0_2 l0_2.length c0_2); have hfz17_0 := f1_ BK382 0; have hfz17_1 := f1_ BK382 1; have hfz17_2 := f1_ BK382 2) | ((with_reducible refine gate_callee (f := 19) rfl ?_); refine goesL_ (some 7) rfl rfl Try.func19 s2_ rfl #[.agg #[.slice A0_0 l0_0.length c0_0, .slice A0_1 l0_1.length c0_1, .slice A0_2 l0_2.length c0_2]] rfl s3_ ?_; (with_reducible refine (impl_ValidPresence.calls k _ _ l0_0 _ _ l0_1 _ _ l0_2 false _ ?side1 ?side2 ?side3 ?side4 ?side5 ?side6 A3.out).mono ?_); (case side1 => exact y2_ (Kd.C_below HR0_0.out HB.out)); (case side2 => exact HC0_0.out); (case side3 => exact y2_ (Kd.C_below HR0_1.out HB.out)); (case side4 => exact HC0_1.out); (case side5 => exact y2_ (Kd.C_below HR0_2.out HB.out)); (case side6 => exact HC0_2.out); rintro e w18 ⟨rfl, hb⟩; refine ⟨_, rfl, ?_⟩; replace BK382 := b3_ BK382 hb; replace HB := A_ (below_step (y1_ HB.out) hb); (try clear hb); (try clear hb2); (try clear hk); (try clear hi)))
 go_ret2
 exact ⟨_, e1_, by first | exact Kd.R_nil _ _ _ _ _ | exact Kd.N_nil _ _ _ _ _ | exact Kd.V_nil _ _ _ _ _ | exact Kd.Q_nil _ _ _ _ _ | exact Kd.S_nil _ _ _ _ _, y1_ HB.out⟩}

/-! ### cmp_isNaN_int64_n115: function 115 -/
def cmp_isNaN_int64_n115.f (a0 : Int) : Option (Bool) := some (a0 != a0)
set_option maxHeartbeats 8000000 in
set_option maxRecDepth 100000 in
theorem cmp_isNaN_int64_n115.calls (a0 : Int) (r : Bool) (w : World) (h : cmp_isNaN_int64_n115.f a0 = some r) :
    Calls Try.prog 115 #[.int .i64 a0] w fun e w' => e = .returned (.bool r) ∧ Drawn0 w w' := by
  have H : (some (a0 != a0)) = some r := h
  clear h
  obtain rfl := Option.some.inj H
  go_enter Try.func115, Try.ntmps115
  go_wp2
  go_ret
  exact ⟨by first | rfl | (simp; done) | (simp [*]; done), by repeat (first | exact Drawn0.refl _ | apply Drawn0.step)⟩

end Go.Proofs.Ytgfilednbllkmaa.QFnJoinedPresence
