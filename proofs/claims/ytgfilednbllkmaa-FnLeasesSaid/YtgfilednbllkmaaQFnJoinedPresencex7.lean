-- written by a program of this session, on the lines of the kit's print
import Derived.Test.YtgfilednbllkmaaQFnJoinedPresencex0
import Derived.Test.YtgfilednbllkmaaQFnJoinedPresencex3
import Derived.Test.YtgfilednbllkmaaQFnJoinedPresencex4
import Derived.Test.YtgfilednbllkmaaQFnJoinedPresencex5
import Derived.Test.YtgfilednbllkmaaQFnJoinedPresencex6
namespace Go.Proofs.Ytgfilednbllkmaa.QFnJoinedPresence
open Go.RowKit Go.Proofs.YtgfilednbllkmaaW.PrintWords Go.Proofs.YtgfilednbllkmaaW.PrintLast Go.Proofs.YtgfilednbllkmaaW.PrintMore
attribute [local go_sem] max2_int min2_int max_two min_two max_three min_three max_four min_four   -- for this text's walks alone
set_option linter.unusedVariables false
set_option linter.unusedSimpArgs false

/-! ### spec_l05Is: function 57 -/
abbrev spec_l05Is.T : Bool := true
abbrev spec_l05Is.F : Bool := false
def spec_l05Is.l0 : Nat → Int → Int → List (S63) → List (S63) → List (S73) → Option (Bool)
  | 0, _, _, _, _, _ => none
  | k + 1, x9, x10, x1000, x1001, x1002 => if x10 < x9 then (if 0 ≤ x10 then (if x10 < (x1002.length : Int) then ((spec_l01Member.f ((rd_T73 x1002 x10).f0)).bind fun t154 => (if t154 = true then ((spec_l00In.f ((rd_T73 x1002 x10).f1) 0 1000000000).bind fun t155 => (if t155 = true then (if x10 > 0 then (if 0 ≤ (wrap64 (x10 - 1)) then (if (wrap64 (x10 - 1)) < (x1002.length : Int) then (if ((rd_T73 x1002 (wrap64 (x10 - 1))).f0) ≥ ((rd_T73 x1002 x10).f0) then (some false) else (spec_l05Is.l0 k x9 (wrap64 (x10 + 1)) x1000 x1001 x1002)) else (none)) else (none)) else (spec_l05Is.l0 k x9 (wrap64 (x10 + 1)) x1000 x1001 x1002)) else (some false))) else (some false))) else (none)) else (none)) else (if (x1002.length : Int) ≤ 30 then ((spec_l05Leases.f k x1000).bind fun t150 => (if t150 = true then ((spec_l05Leases.f k x1001).bind fun t151 => (some t151)) else (some false))) else (some false))
def spec_l05Is.f (k : Nat) (l0_0 : List (S63)) (l0_1 : List (S63)) (l0_2 : List (S73)) : Option (Bool) := spec_l05Is.l0 k (l0_2.length : Int) 0 l0_0 l0_1 l0_2
theorem spec_l05Is.mono_l : ∀ k, (∀ y0 y1 y2 y3 y4, LeO (spec_l05Is.l0 k y0 y1 y2 y3 y4) (spec_l05Is.l0 (k + 1) y0 y1 y2 y3 y4))
  | 0 => fun _ _ _ _ _ r h => by simp [spec_l05Is.l0] at h
  | k + 1 => by
    have ih0 := spec_l05Is.mono_l k
    · intro y0 y1 y2 y3 y4
      unfold spec_l05Is.l0
      repeat' first
      | (with_reducible exact ih0 _ _ _ _ _)
      | (with_reducible exact spec_l05Leases.mono _ _)
      | (with_reducible exact LeO.refl _)
      | (with_reducible exact LeO.none _)
      | (with_reducible refine LeO.ite ?_ ?_)
      | (with_reducible refine LeO.bind ?_ (fun _ => ?_))
      | exact ih0 _ _ _ _ _
      | exact spec_l05Leases.mono _ _
      | exact LeO.none _
      | refine LeO.ite ?_ ?_
      | refine LeO.bind ?_ (fun _ => ?_)
theorem spec_l05Is.mono : ∀ a0 a1 a2 k, LeO (spec_l05Is.f k a0 a1 a2) (spec_l05Is.f (k + 1) a0 a1 a2) := by
  intro a0 a1 a2 k
  have ih0 := spec_l05Is.mono_l k
  unfold spec_l05Is.f
  repeat' first
      | (with_reducible exact ih0 _ _ _ _ _)
      | (with_reducible exact spec_l05Leases.mono _ _)
      | (with_reducible exact LeO.refl _)
      | (with_reducible exact LeO.none _)
      | (with_reducible refine LeO.ite ?_ ?_)
      | (with_reducible refine LeO.bind ?_ (fun _ => ?_))
      | exact ih0 _ _ _ _ _
      | exact spec_l05Leases.mono _ _
      | exact LeO.none _
      | refine LeO.ite ?_ ?_
      | refine LeO.bind ?_ (fun _ => ?_)
set_option maxHeartbeats 8000000 in
set_option maxRecDepth 100000 in
theorem spec_l05Is.calls (k : Nat) (g0_ : Nat) (A0_0 : Option Addr) (c0_0 : Nat) (l0_0 : List (S63)) (A0_1 : Option Addr) (c0_1 : Nat) (l0_1 : List (S63)) (A0_2 : Option Addr) (c0_2 : Nat) (l0_2 : List (S73)) (r : Bool) (w : World) (hbk0 : w.heap[g0_]? = some (.cells #[.slice A0_0 l0_0.length c0_0, .slice A0_1 l0_1.length c0_1, .slice A0_2 l0_2.length c0_2] 27 (0, 0))) (hr0_0 : Kd.C k63 w A0_0 l0_0.length l0_0) (hc0_0 : l0_0.length ≤ c0_0) (hr0_1 : Kd.C k63 w A0_1 l0_1.length l0_1) (hc0_1 : l0_1.length ≤ c0_1) (hr0_2 : Kd.C k73 w A0_2 l0_2.length l0_2) (hc0_2 : l0_2.length ≤ c0_2) (h : spec_l05Is.f k l0_0 l0_1 l0_2 = some r) :
    Calls Try.prog 57 #[.pointer (some ⟨g0_, 0, none⟩)] w fun e w' => e = .returned (.bool r) ∧ Below w.heap.size w w' := by
 have hu73 := Try.underlying73
 have HR0_0 := A_ hr0_0
 have HC0_0 := A_ hc0_0
 clear hr0_0 hc0_0
 have HR0_1 := A_ hr0_1
 have HC0_1 := A_ hc0_1
 clear hr0_1 hc0_1
 have HR0_2 := A_ hr0_2
 have HC0_2 := A_ hc0_2
 clear hr0_2 hc0_2
 have BK0 := A_ hbk0
 clear hbk0
 have HB := A_ (Below.refl w.heap.size w)
 have H : (spec_l05Is.l0 k (l0_2.length : Int) 0 l0_0 l0_1 l0_2) = some r := h
 clear h
 have H' := A_ H
 clear H
 have hcz2_0 := c1_ BK0 0 (.slice A0_0 l0_0.length c0_0)
 have hcz2_1 := c1_ BK0 1 (.slice A0_1 l0_1.length c0_1)
 have hcz2_2 := c1_ BK0 2 (.slice A0_2 l0_2.length c0_2)
 have hfz2_0 := f1_ BK0 0
 have hfz2_1 := f1_ BK0 1
 have hfz2_2 := f1_ BK0 2
 go_enter Try.func57, Try.ntmps57
 go_wp2
 repeat (go_quiet (fail); try go_wp2)
 go_loopg [10] k (fun kq v10 w' => ∃ (x10_1 : Int), v10 = .int .i64 x10_1 ∧ Aside0 (spec_l05Is.l0 kq (l0_2.length : Int) x10_1 l0_0 l0_1 l0_2 = some r) ∧ Aside0 (kq ≤ k) ∧ Aside0 (w'.heap[g0_]? = some (.cells #[(.slice A0_0 l0_0.length c0_0), (.slice A0_1 l0_1.length c0_1), (.slice A0_2 l0_2.length c0_2)] 27 (0, 0))) ∧ Aside0 (Below w.heap.size w w'))
 case atStart => exact ⟨(0), s1_, H', ⟨Nat.le_refl _⟩, ⟨b1_ BK0.out⟩, ⟨y1_ HB.out⟩⟩
 case round =>
  skip
  {
 clear H'
 try clear p2
 try clear hcz2_0
 try clear hcz2_1
 try clear hcz2_2
 try clear hfz2_0
 try clear hfz2_1
 try clear hfz2_2
 obtain ⟨x10_1, rfl, HA, HK1, BK0, HB⟩ := hrel
 cases gk with
 | zero => exact absurd HA.out (by simp [spec_l05Is.l0])
 | succ k1 =>
  skip
  {
 have H := HA.out
 clear HA
 simp only [spec_l05Is.l0] at H
 by_cases c3 : x10_1 < (l0_2.length : Int)
 {
 rw [if_pos c3] at H
 have c3b0 : decide (x10_1 < (l0_2.length : Int)) = true := decide_eq_true c3
 clear c3
 by_cases c4 : 0 ≤ x10_1
 {
 rw [if_pos c4] at H
 have c4b0 : decide (0 ≤ x10_1) = true := decide_eq_true c4
 clear c4
 by_cases c5 : x10_1 < (l0_2.length : Int)
 {
 rw [if_pos c5] at H
 have c5b0 : decide (x10_1 < (l0_2.length : Int)) = true := decide_eq_true c5
 clear c5
 replace H := Option.bind_eq_some_iff.mp H
 obtain ⟨t154, A60, H⟩ := H
 replace H : (if t154 = true then ((spec_l00In.f ((rd_T73 l0_2 x10_1).f1) 0 1000000000).bind fun t155 => (if t155 = true then (if x10_1 > 0 then (if 0 ≤ (wrap64 (x10_1 - 1)) then (if (wrap64 (x10_1 - 1)) < (l0_2.length : Int) then (if ((rd_T73 l0_2 (wrap64 (x10_1 - 1))).f0) ≥ ((rd_T73 l0_2 x10_1).f0) then (some false) else (spec_l05Is.l0 k1 (l0_2.length : Int) (wrap64 (x10_1 + 1)) l0_0 l0_1 l0_2)) else (none)) else (none)) else (spec_l05Is.l0 k1 (l0_2.length : Int) (wrap64 (x10_1 + 1)) l0_0 l0_1 l0_2)) else (some false))) else (some false)) = some r := H
 have A6 := A_ A60
 clear A60
 by_cases c7 : t154 = true
 {
 subst c7
 have H1 : ((spec_l00In.f ((rd_T73 l0_2 x10_1).f1) 0 1000000000).bind fun t155 => (if t155 = true then (if x10_1 > 0 then (if 0 ≤ (wrap64 (x10_1 - 1)) then (if (wrap64 (x10_1 - 1)) < (l0_2.length : Int) then (if ((rd_T73 l0_2 (wrap64 (x10_1 - 1))).f0) ≥ ((rd_T73 l0_2 x10_1).f0) then (some false) else (spec_l05Is.l0 k1 (l0_2.length : Int) (wrap64 (x10_1 + 1)) l0_0 l0_1 l0_2)) else (none)) else (none)) else (spec_l05Is.l0 k1 (l0_2.length : Int) (wrap64 (x10_1 + 1)) l0_0 l0_1 l0_2)) else (some false))) = some r := by rw [if_pos rfl] at H; exact H
 clear H
 have H := H1
 clear H1
 replace H := Option.bind_eq_some_iff.mp H
 obtain ⟨t155, A80, H⟩ := H
 replace H : (if t155 = true then (if x10_1 > 0 then (if 0 ≤ (wrap64 (x10_1 - 1)) then (if (wrap64 (x10_1 - 1)) < (l0_2.length : Int) then (if ((rd_T73 l0_2 (wrap64 (x10_1 - 1))).f0) ≥ ((rd_T73 l0_2 x10_1).f0) then (some false) else (spec_l05Is.l0 k1 (l0_2.length : Int) (wrap64 (x10_1 + 1)) l0_0 l0_1 l0_2)) else (none)) else (none)) else (spec_l05Is.l0 k1 (l0_2.length : Int) (wrap64 (x10_1 + 1)) l0_0 l0_1 l0_2)) else (some false)) = some r := H
 have A8 := A_ A80
 clear A80
 by_cases c9 : t155 = true
 {
 subst c9
 have H1 : (if x10_1 > 0 then (if 0 ≤ (wrap64 (x10_1 - 1)) then (if (wrap64 (x10_1 - 1)) < (l0_2.length : Int) then (if ((rd_T73 l0_2 (wrap64 (x10_1 - 1))).f0) ≥ ((rd_T73 l0_2 x10_1).f0) then (some false) else (spec_l05Is.l0 k1 (l0_2.length : Int) (wrap64 (x10_1 + 1)) l0_0 l0_1 l0_2)) else (none)) else (none)) else (spec_l05Is.l0 k1 (l0_2.length : Int) (wrap64 (x10_1 + 1)) l0_0 l0_1 l0_2)) = some r := by rw [if_pos rfl] at H; exact H
 clear H
 have H := H1
 clear H1
 by_cases c10 : x10_1 > 0
 {
 rw [if_pos c10] at H
 have c10b0 : decide (0 < x10_1) = true := decide_eq_true c10
 clear c10
 obtain ⟨ji11, hji11⟩ : ∃ j_ : Int, (wrap64 (x10_1 - 1)) = j_ := ⟨_, rfl⟩
 replace H : (if 0 ≤ (ji11) then (if (ji11) < (l0_2.length : Int) then (if ((rd_T73 l0_2 (ji11)).f0) ≥ ((rd_T73 l0_2 x10_1).f0) then (some false) else (spec_l05Is.l0 k1 (l0_2.length : Int) (wrap64 (x10_1 + 1)) l0_0 l0_1 l0_2)) else (none)) else (none)) = some r := by first | (rw [hji11] at H; exact H) | (simp only [hji11] at H ⊢; exact H)
 (try rw [hji11] at A6)
 (try rw [hji11] at A8)
 have hji11w : (IntKind.i64.wrap (x10_1 - 1)) = ji11 := (i64_w _).trans hji11
 by_cases c12 : 0 ≤ (ji11)
 {
 rw [if_pos c12] at H
 have c12b0 : decide (0 ≤ (ji11)) = true := decide_eq_true c12
 clear c12
 by_cases c13 : (ji11) < (l0_2.length : Int)
 {
 rw [if_pos c13] at H
 have c13b0 : decide ((ji11) < (l0_2.length : Int)) = true := decide_eq_true c13
 clear c13
 by_cases c14 : ((rd_T73 l0_2 (ji11)).f0) ≥ ((rd_T73 l0_2 x10_1).f0)
 {
 rw [if_pos c14] at H
 have c14b0 : decide (((rd_T73 l0_2 x10_1).f0) ≤ ((rd_T73 l0_2 (ji11)).f0)) = true := decide_eq_true c14
 clear c14
 obtain rfl := Option.some.inj H
 have hcz15_0 := c1_ BK0 0 (.slice A0_0 l0_0.length c0_0)
 have hcz15_1 := c1_ BK0 1 (.slice A0_1 l0_1.length c0_1)
 have hcz15_2 := c1_ BK0 2 (.slice A0_2 l0_2.length c0_2)
 have hfz15_0 := f1_ BK0 0
 have hfz15_1 := f1_ BK0 1
 have hfz15_2 := f1_ BK0 2
 have p152 : 0 ≤ (x10_1 : Int) := o1_
 have q152 : x10_1 < (l0_2.length : Int) := o1_
 obtain ⟨ad152, e152, hx152_0, hx152_1⟩ := at_T73 HR0_2.out x10_1 p152 q152
 cases e152
 replace hx152_0 := (HB.out.cell (World.block_lt_of_cell? w _ hx152_0)).trans hx152_0
 replace hx152_1 := (HB.out.cell (World.block_lt_of_cell? w _ hx152_1)).trans hx152_1
 replace p152 := eq_true p152
 replace q152 := eq_true q152
 go_wp2_with (first | ((with_reducible refine gate_dst (N := 4) rfl ?_); refine bx_ 4 #[.int .i64 0, .int .i64 0] 73 ?_; intro gb153 hg w16 hbox hb; have GW153 := b6_ hg HB; have GE153 := b6_ hg HB; have NB0_153 := b4_ hg BK0; have NB153_0 := b5_ hg BK0; replace BK0 := b3_ BK0 hb; replace HB := A_ (below_step (y1_ HB.out) hb); have BK153 := A_ (hbox); clear hb hbox hg; have hnb17 := NB153_0.out; have hnc17 := NB0_153.out; have hcz18_0 := c1_ BK153 0 (.int .i64 0); have hcz18_1 := c1_ BK153 1 (.int .i64 0); have hfz18_0 := f1_ BK153 0; have hfz18_1 := f1_ BK153 1; have hcz19_0 := c1_ BK0 0 (.slice A0_0 l0_0.length c0_0); have hcz19_1 := c1_ BK0 1 (.slice A0_1 l0_1.length c0_1); have hcz19_2 := c1_ BK0 2 (.slice (some ad152) l0_2.length c0_2); have hfz19_0 := f1_ BK0 0; have hfz19_1 := f1_ BK0 1; have hfz19_2 := f1_ BK0 2; have p156 : 0 ≤ ((ji11) : Int) := o1_; have q156 : (ji11) < (l0_2.length : Int) := o1_; obtain ⟨ad156, e156, hx156_0, hx156_1⟩ := at_T73 HR0_2.out (ji11) p156 q156; obtain rfl : ad152 = ad156 := (by injection e156); have hn156_0 : ad152.block ≠ gb153 := Nat.ne_of_lt (Nat.lt_of_lt_of_le (by have := World.block_lt_of_cell? _ _ hx156_0; first | rwa [add_block] at this | exact this) GW153.out); have hn156_1 : ad152.block ≠ gb153 := Nat.ne_of_lt (Nat.lt_of_lt_of_le (by have := World.block_lt_of_cell? _ _ hx156_0; first | rwa [add_block] at this | exact this) GW153.out); replace hx156_0 := (HB.out.cell (World.block_lt_of_cell? w _ hx156_0)).trans hx156_0; replace hx156_1 := (HB.out.cell (World.block_lt_of_cell? w _ hx156_1)).trans hx156_1; replace hx156_0 := (cell_far (p := ⟨gb153, 0, none⟩) (by first | (rw [add_block]; exact hn156_0) | (show (Addr.add _ _).block ≠ _; rw [add_block]; exact hn156_0) | exact hn156_0) (.int .i64 ((rd_T73 l0_2 x10_1).f0))).trans hx156_0; replace hx156_1 := (cell_far (p := ⟨gb153, 0, none⟩) (by first | (rw [add_block]; exact hn156_0) | (show (Addr.add _ _).block ≠ _; rw [add_block]; exact hn156_0) | exact hn156_0) (.int .i64 ((rd_T73 l0_2 x10_1).f0))).trans hx156_1; replace hx156_0 := (cell_far (p := ⟨gb153, 1, none⟩) (by first | (rw [add_block]; exact hn156_1) | (show (Addr.add _ _).block ≠ _; rw [add_block]; exact hn156_1) | exact hn156_1) (.int .i64 ((rd_T73 l0_2 x10_1).f1))).trans hx156_0; replace hx156_1 := (cell_far (p := ⟨gb153, 1, none⟩) (by first | (rw [add_block]; exact hn156_1) | (show (Addr.add _ _).block ≠ _; rw [add_block]; exact hn156_1) | exact hn156_1) (.int .i64 ((rd_T73 l0_2 x10_1).f1))).trans hx156_1; (try have hy156_0 := fun (n_ : Nat) => (show ((((w16.drewN n_).setCell ⟨gb153, 0, none⟩ (.int .i64 ((rd_T73 l0_2 x10_1).f0))).setCell ⟨gb153, 1, none⟩ (.int .i64 ((rd_T73 l0_2 x10_1).f1)))).cell? _ = some _ from hx156_0)); (try have hy156_1 := fun (n_ : Nat) => (show ((((w16.drewN n_).setCell ⟨gb153, 0, none⟩ (.int .i64 ((rd_T73 l0_2 x10_1).f0))).setCell ⟨gb153, 1, none⟩ (.int .i64 ((rd_T73 l0_2 x10_1).f1)))).cell? _ = some _ from hx156_1)); clear hn156_0; clear hn156_1; replace p156 := eq_true p156; replace q156 := eq_true q156) | (go_at_call 98; (with_reducible refine (spec_l01Member.calls ((rd_T73 l0_2 x10_1).f0) true _ A6.out).mono ?_); rintro e w' ⟨rfl, ⟨nd, rfl⟩⟩; (try exact d1_)) | (go_at_call 99; (with_reducible refine (spec_l00In.calls ((rd_T73 l0_2 x10_1).f1) 0 1000000000 true _ A8.out).mono ?_); rintro e w' ⟨rfl, ⟨nd, rfl⟩⟩; (try exact d1_)))
 repeat (go_quiet (first | ((with_reducible refine gate_dst (N := 4) rfl ?_); refine bx_ 4 #[.int .i64 0, .int .i64 0] 73 ?_; intro gb153 hg w16 hbox hb; have GW153 := b6_ hg HB; have GE153 := b6_ hg HB; have NB0_153 := b4_ hg BK0; have NB153_0 := b5_ hg BK0; replace BK0 := b3_ BK0 hb; replace HB := A_ (below_step (y1_ HB.out) hb); have BK153 := A_ (hbox); clear hb hbox hg; have hnb17 := NB153_0.out; have hnc17 := NB0_153.out; have hcz18_0 := c1_ BK153 0 (.int .i64 0); have hcz18_1 := c1_ BK153 1 (.int .i64 0); have hfz18_0 := f1_ BK153 0; have hfz18_1 := f1_ BK153 1; have hcz19_0 := c1_ BK0 0 (.slice A0_0 l0_0.length c0_0); have hcz19_1 := c1_ BK0 1 (.slice A0_1 l0_1.length c0_1); have hcz19_2 := c1_ BK0 2 (.slice (some ad152) l0_2.length c0_2); have hfz19_0 := f1_ BK0 0; have hfz19_1 := f1_ BK0 1; have hfz19_2 := f1_ BK0 2; have p156 : 0 ≤ ((ji11) : Int) := o1_; have q156 : (ji11) < (l0_2.length : Int) := o1_; obtain ⟨ad156, e156, hx156_0, hx156_1⟩ := at_T73 HR0_2.out (ji11) p156 q156; obtain rfl : ad152 = ad156 := (by injection e156); have hn156_0 : ad152.block ≠ gb153 := Nat.ne_of_lt (Nat.lt_of_lt_of_le (by have := World.block_lt_of_cell? _ _ hx156_0; first | rwa [add_block] at this | exact this) GW153.out); have hn156_1 : ad152.block ≠ gb153 := Nat.ne_of_lt (Nat.lt_of_lt_of_le (by have := World.block_lt_of_cell? _ _ hx156_0; first | rwa [add_block] at this | exact this) GW153.out); replace hx156_0 := (HB.out.cell (World.block_lt_of_cell? w _ hx156_0)).trans hx156_0; replace hx156_1 := (HB.out.cell (World.block_lt_of_cell? w _ hx156_1)).trans hx156_1; replace hx156_0 := (cell_far (p := ⟨gb153, 0, none⟩) (by first | (rw [add_block]; exact hn156_0) | (show (Addr.add _ _).block ≠ _; rw [add_block]; exact hn156_0) | exact hn156_0) (.int .i64 ((rd_T73 l0_2 x10_1).f0))).trans hx156_0; replace hx156_1 := (cell_far (p := ⟨gb153, 0, none⟩) (by first | (rw [add_block]; exact hn156_0) | (show (Addr.add _ _).block ≠ _; rw [add_block]; exact hn156_0) | exact hn156_0) (.int .i64 ((rd_T73 l0_2 x10_1).f0))).trans hx156_1; replace hx156_0 := (cell_far (p := ⟨gb153, 1, none⟩) (by first | (rw [add_block]; exact hn156_1) | (show (Addr.add _ _).block ≠ _; rw [add_block]; exact hn156_1) | exact hn156_1) (.int .i64 ((rd_T73 l0_2 x10_1).f1))).trans hx156_0; replace hx156_1 := (cell_far (p := ⟨gb153, 1, none⟩) (by first | (rw [add_block]; exact hn156_1) | (show (Addr.add _ _).block ≠ _; rw [add_block]; exact hn156_1) | exact hn156_1) (.int .i64 ((rd_T73 l0_2 x10_1).f1))).trans hx156_1; (try have hy156_0 := fun (n_ : Nat) => (show ((((w16.drewN n_).setCell ⟨gb153, 0, none⟩ (.int .i64 ((rd_T73 l0_2 x10_1).f0))).setCell ⟨gb153, 1, none⟩ (.int .i64 ((rd_T73 l0_2 x10_1).f1)))).cell? _ = some _ from hx156_0)); (try have hy156_1 := fun (n_ : Nat) => (show ((((w16.drewN n_).setCell ⟨gb153, 0, none⟩ (.int .i64 ((rd_T73 l0_2 x10_1).f0))).setCell ⟨gb153, 1, none⟩ (.int .i64 ((rd_T73 l0_2 x10_1).f1)))).cell? _ = some _ from hx156_1)); clear hn156_0; clear hn156_1; replace p156 := eq_true p156; replace q156 := eq_true q156) | (go_at_call 98; (with_reducible refine (spec_l01Member.calls ((rd_T73 l0_2 x10_1).f0) true _ A6.out).mono ?_); rintro e w' ⟨rfl, ⟨nd, rfl⟩⟩; (try exact d1_)) | (go_at_call 99; (with_reducible refine (spec_l00In.calls ((rd_T73 l0_2 x10_1).f1) 0 1000000000 true _ A8.out).mono ?_); rintro e w' ⟨rfl, ⟨nd, rfl⟩⟩; (try exact d1_))); try go_wp2_with (first | ((with_reducible refine gate_dst (N := 4) rfl ?_); refine bx_ 4 #[.int .i64 0, .int .i64 0] 73 ?_; intro gb153 hg w16 hbox hb; have GW153 := b6_ hg HB; have GE153 := b6_ hg HB; have NB0_153 := b4_ hg BK0; have NB153_0 := b5_ hg BK0; replace BK0 := b3_ BK0 hb; replace HB := A_ (below_step (y1_ HB.out) hb); have BK153 := A_ (hbox); clear hb hbox hg; have hnb17 := NB153_0.out; have hnc17 := NB0_153.out; have hcz18_0 := c1_ BK153 0 (.int .i64 0); have hcz18_1 := c1_ BK153 1 (.int .i64 0); have hfz18_0 := f1_ BK153 0; have hfz18_1 := f1_ BK153 1; have hcz19_0 := c1_ BK0 0 (.slice A0_0 l0_0.length c0_0); have hcz19_1 := c1_ BK0 1 (.slice A0_1 l0_1.length c0_1); have hcz19_2 := c1_ BK0 2 (.slice (some ad152) l0_2.length c0_2); have hfz19_0 := f1_ BK0 0; have hfz19_1 := f1_ BK0 1; have hfz19_2 := f1_ BK0 2; have p156 : 0 ≤ ((ji11) : Int) := o1_; have q156 : (ji11) < (l0_2.length : Int) := o1_; obtain ⟨ad156, e156, hx156_0, hx156_1⟩ := at_T73 HR0_2.out (ji11) p156 q156; obtain rfl : ad152 = ad156 := (by injection e156); have hn156_0 : ad152.block ≠ gb153 := Nat.ne_of_lt (Nat.lt_of_lt_of_le (by have := World.block_lt_of_cell? _ _ hx156_0; first | rwa [add_block] at this | exact this) GW153.out); have hn156_1 : ad152.block ≠ gb153 := Nat.ne_of_lt (Nat.lt_of_lt_of_le (by have := World.block_lt_of_cell? _ _ hx156_0; first | rwa [add_block] at this | exact this) GW153.out); replace hx156_0 := (HB.out.cell (World.block_lt_of_cell? w _ hx156_0)).trans hx156_0; replace hx156_1 := (HB.out.cell (World.block_lt_of_cell? w _ hx156_1)).trans hx156_1; replace hx156_0 := (cell_far (p := ⟨gb153, 0, none⟩) (by first | (rw [add_block]; exact hn156_0) | (show (Addr.add _ _).block ≠ _; rw [add_block]; exact hn156_0) | exact hn156_0) (.int .i64 ((rd_T73 l0_2 x10_1).f0))).trans hx156_0; replace hx156_1 := (cell_far (p := ⟨gb153, 0, none⟩) (by first | (rw [add_block]; exact hn156_0) | (show (Addr.add _ _).block ≠ _; rw [add_block]; exact hn156_0) | exact hn156_0) (.int .i64 ((rd_T73 l0_2 x10_1).f0))).trans hx156_1; replace hx156_0 := (cell_far (p := ⟨gb153, 1, none⟩) (by first | (rw [add_block]; exact hn156_1) | (show (Addr.add _ _).block ≠ _; rw [add_block]; exact hn156_1) | exact hn156_1) (.int .i64 ((rd_T73 l0_2 x10_1).f1))).trans hx156_0; replace hx156_1 := (cell_far (p := ⟨gb153, 1, none⟩) (by first | (rw [add_block]; exact hn156_1) | (show (Addr.add _ _).block ≠ _; rw [add_block]; exact hn156_1) | exact hn156_1) (.int .i64 ((rd_T73 l0_2 x10_1).f1))).trans hx156_1; (try have hy156_0 := fun (n_ : Nat) => (show ((((w16.drewN n_).setCell ⟨gb153, 0, none⟩ (.int .i64 ((rd_T73 l0_2 x10_1).f0))).setCell ⟨gb153, 1, none⟩ (.int .i64 ((rd_T73 l0_2 x10_1).f1)))).cell? _ = some _ from hx156_0)); (try have hy156_1 := fun (n_ : Nat) => (show ((((w16.drewN n_).setCell ⟨gb153, 0, none⟩ (.int .i64 ((rd_T73 l0_2 x10_1).f0))).setCell ⟨gb153, 1, none⟩ (.int .i64 ((rd_T73 l0_2 x10_1).f1)))).cell? _ = some _ from hx156_1)); clear hn156_0; clear hn156_1; replace p156 := eq_true p156; replace q156 := eq_true q156) | (go_at_call 98; (with_reducible refine (spec_l01Member.calls ((rd_T73 l0_2 x10_1).f0) true _ A6.out).mono ?_); rintro e w' ⟨rfl, ⟨nd, rfl⟩⟩; (try exact d1_)) | (go_at_call 99; (with_reducible refine (spec_l00In.calls ((rd_T73 l0_2 x10_1).f1) 0 1000000000 true _ A8.out).mono ?_); rintro e w' ⟨rfl, ⟨nd, rfl⟩⟩; (try exact d1_))))
 go_ret
 exact ⟨by first | rfl | (simp [errW_none, errW_some] <;> rfl) | (simp only [← hji11]; first | rfl | (simp [errW_none, errW_some] <;> rfl)) | (simp [*, errW_none, errW_some] <;> rfl), by repeat (first | (with_reducible first | exact HB.out | apply below_alloc | apply pw_below_drewN | apply below_drew1 | refine below_set ?_ GE153.out) | exact HB.out)⟩}
 {
 rw [if_neg c14] at H
 have c14b0 : decide (((rd_T73 l0_2 x10_1).f0) ≤ ((rd_T73 l0_2 (ji11)).f0)) = false := decide_eq_false c14
 clear c14
 have H' := A_ H
 clear H
 have hcz20_0 := c1_ BK0 0 (.slice A0_0 l0_0.length c0_0)
 have hcz20_1 := c1_ BK0 1 (.slice A0_1 l0_1.length c0_1)
 have hcz20_2 := c1_ BK0 2 (.slice A0_2 l0_2.length c0_2)
 have hfz20_0 := f1_ BK0 0
 have hfz20_1 := f1_ BK0 1
 have hfz20_2 := f1_ BK0 2
 have p152 : 0 ≤ (x10_1 : Int) := o1_
 have q152 : x10_1 < (l0_2.length : Int) := o1_
 obtain ⟨ad152, e152, hx152_0, hx152_1⟩ := at_T73 HR0_2.out x10_1 p152 q152
 cases e152
 replace hx152_0 := (HB.out.cell (World.block_lt_of_cell? w _ hx152_0)).trans hx152_0
 replace hx152_1 := (HB.out.cell (World.block_lt_of_cell? w _ hx152_1)).trans hx152_1
 replace p152 := eq_true p152
 replace q152 := eq_true q152
 go_wp2_with (first | ((with_reducible refine gate_dst (N := 4) rfl ?_); refine bx_ 4 #[.int .i64 0, .int .i64 0] 73 ?_; intro gb153 hg w21 hbox hb; have GW153 := b6_ hg HB; have GE153 := b6_ hg HB; have NB0_153 := b4_ hg BK0; have NB153_0 := b5_ hg BK0; replace BK0 := b3_ BK0 hb; replace HB := A_ (below_step (y1_ HB.out) hb); have BK153 := A_ (hbox); clear hb hbox hg; have hnb22 := NB153_0.out; have hnc22 := NB0_153.out; have hcz23_0 := c1_ BK153 0 (.int .i64 0); have hcz23_1 := c1_ BK153 1 (.int .i64 0); have hfz23_0 := f1_ BK153 0; have hfz23_1 := f1_ BK153 1; have hcz24_0 := c1_ BK0 0 (.slice A0_0 l0_0.length c0_0); have hcz24_1 := c1_ BK0 1 (.slice A0_1 l0_1.length c0_1); have hcz24_2 := c1_ BK0 2 (.slice (some ad152) l0_2.length c0_2); have hfz24_0 := f1_ BK0 0; have hfz24_1 := f1_ BK0 1; have hfz24_2 := f1_ BK0 2; have p156 : 0 ≤ ((ji11) : Int) := o1_; have q156 : (ji11) < (l0_2.length : Int) := o1_; obtain ⟨ad156, e156, hx156_0, hx156_1⟩ := at_T73 HR0_2.out (ji11) p156 q156; obtain rfl : ad152 = ad156 := (by injection e156); have hn156_0 : ad152.block ≠ gb153 := Nat.ne_of_lt (Nat.lt_of_lt_of_le (by have := World.block_lt_of_cell? _ _ hx156_0; first | rwa [add_block] at this | exact this) GW153.out); have hn156_1 : ad152.block ≠ gb153 := Nat.ne_of_lt (Nat.lt_of_lt_of_le (by have := World.block_lt_of_cell? _ _ hx156_0; first | rwa [add_block] at this | exact this) GW153.out); replace hx156_0 := (HB.out.cell (World.block_lt_of_cell? w _ hx156_0)).trans hx156_0; replace hx156_1 := (HB.out.cell (World.block_lt_of_cell? w _ hx156_1)).trans hx156_1; replace hx156_0 := (cell_far (p := ⟨gb153, 0, none⟩) (by first | (rw [add_block]; exact hn156_0) | (show (Addr.add _ _).block ≠ _; rw [add_block]; exact hn156_0) | exact hn156_0) (.int .i64 ((rd_T73 l0_2 x10_1).f0))).trans hx156_0; replace hx156_1 := (cell_far (p := ⟨gb153, 0, none⟩) (by first | (rw [add_block]; exact hn156_0) | (show (Addr.add _ _).block ≠ _; rw [add_block]; exact hn156_0) | exact hn156_0) (.int .i64 ((rd_T73 l0_2 x10_1).f0))).trans hx156_1; replace hx156_0 := (cell_far (p := ⟨gb153, 1, none⟩) (by first | (rw [add_block]; exact hn156_1) | (show (Addr.add _ _).block ≠ _; rw [add_block]; exact hn156_1) | exact hn156_1) (.int .i64 ((rd_T73 l0_2 x10_1).f1))).trans hx156_0; replace hx156_1 := (cell_far (p := ⟨gb153, 1, none⟩) (by first | (rw [add_block]; exact hn156_1) | (show (Addr.add _ _).block ≠ _; rw [add_block]; exact hn156_1) | exact hn156_1) (.int .i64 ((rd_T73 l0_2 x10_1).f1))).trans hx156_1; (try have hy156_0 := fun (n_ : Nat) => (show ((((w21.drewN n_).setCell ⟨gb153, 0, none⟩ (.int .i64 ((rd_T73 l0_2 x10_1).f0))).setCell ⟨gb153, 1, none⟩ (.int .i64 ((rd_T73 l0_2 x10_1).f1)))).cell? _ = some _ from hx156_0)); (try have hy156_1 := fun (n_ : Nat) => (show ((((w21.drewN n_).setCell ⟨gb153, 0, none⟩ (.int .i64 ((rd_T73 l0_2 x10_1).f0))).setCell ⟨gb153, 1, none⟩ (.int .i64 ((rd_T73 l0_2 x10_1).f1)))).cell? _ = some _ from hx156_1)); clear hn156_0; clear hn156_1; replace p156 := eq_true p156; replace q156 := eq_true q156) | (go_at_call 98; (with_reducible refine (spec_l01Member.calls ((rd_T73 l0_2 x10_1).f0) true _ A6.out).mono ?_); rintro e w' ⟨rfl, ⟨nd, rfl⟩⟩; (try exact d1_)) | (go_at_call 99; (with_reducible refine (spec_l00In.calls ((rd_T73 l0_2 x10_1).f1) 0 1000000000 true _ A8.out).mono ?_); rintro e w' ⟨rfl, ⟨nd, rfl⟩⟩; (try exact d1_)))
 repeat (go_quiet (first | ((with_reducible refine gate_dst (N := 4) rfl ?_); refine bx_ 4 #[.int .i64 0, .int .i64 0] 73 ?_; intro gb153 hg w21 hbox hb; have GW153 := b6_ hg HB; have GE153 := b6_ hg HB; have NB0_153 := b4_ hg BK0; have NB153_0 := b5_ hg BK0; replace BK0 := b3_ BK0 hb; replace HB := A_ (below_step (y1_ HB.out) hb); have BK153 := A_ (hbox); clear hb hbox hg; have hnb22 := NB153_0.out; have hnc22 := NB0_153.out; have hcz23_0 := c1_ BK153 0 (.int .i64 0); have hcz23_1 := c1_ BK153 1 (.int .i64 0); have hfz23_0 := f1_ BK153 0; have hfz23_1 := f1_ BK153 1; have hcz24_0 := c1_ BK0 0 (.slice A0_0 l0_0.length c0_0); have hcz24_1 := c1_ BK0 1 (.slice A0_1 l0_1.length c0_1); have hcz24_2 := c1_ BK0 2 (.slice (some ad152) l0_2.length c0_2); have hfz24_0 := f1_ BK0 0; have hfz24_1 := f1_ BK0 1; have hfz24_2 := f1_ BK0 2; have p156 : 0 ≤ ((ji11) : Int) := o1_; have q156 : (ji11) < (l0_2.length : Int) := o1_; obtain ⟨ad156, e156, hx156_0, hx156_1⟩ := at_T73 HR0_2.out (ji11) p156 q156; obtain rfl : ad152 = ad156 := (by injection e156); have hn156_0 : ad152.block ≠ gb153 := Nat.ne_of_lt (Nat.lt_of_lt_of_le (by have := World.block_lt_of_cell? _ _ hx156_0; first | rwa [add_block] at this | exact this) GW153.out); have hn156_1 : ad152.block ≠ gb153 := Nat.ne_of_lt (Nat.lt_of_lt_of_le (by have := World.block_lt_of_cell? _ _ hx156_0; first | rwa [add_block] at this | exact this) GW153.out); replace hx156_0 := (HB.out.cell (World.block_lt_of_cell? w _ hx156_0)).trans hx156_0; replace hx156_1 := (HB.out.cell (World.block_lt_of_cell? w _ hx156_1)).trans hx156_1; replace hx156_0 := (cell_far (p := ⟨gb153, 0, none⟩) (by first | (rw [add_block]; exact hn156_0) | (show (Addr.add _ _).block ≠ _; rw [add_block]; exact hn156_0) | exact hn156_0) (.int .i64 ((rd_T73 l0_2 x10_1).f0))).trans hx156_0; replace hx156_1 := (cell_far (p := ⟨gb153, 0, none⟩) (by first | (rw [add_block]; exact hn156_0) | (show (Addr.add _ _).block ≠ _; rw [add_block]; exact hn156_0) | exact hn156_0) (.int .i64 ((rd_T73 l0_2 x10_1).f0))).trans hx156_1; replace hx156_0 := (cell_far (p := ⟨gb153, 1, none⟩) (by first | (rw [add_block]; exact hn156_1) | (show (Addr.add _ _).block ≠ _; rw [add_block]; exact hn156_1) | exact hn156_1) (.int .i64 ((rd_T73 l0_2 x10_1).f1))).trans hx156_0; replace hx156_1 := (cell_far (p := ⟨gb153, 1, none⟩) (by first | (rw [add_block]; exact hn156_1) | (show (Addr.add _ _).block ≠ _; rw [add_block]; exact hn156_1) | exact hn156_1) (.int .i64 ((rd_T73 l0_2 x10_1).f1))).trans hx156_1; (try have hy156_0 := fun (n_ : Nat) => (show ((((w21.drewN n_).setCell ⟨gb153, 0, none⟩ (.int .i64 ((rd_T73 l0_2 x10_1).f0))).setCell ⟨gb153, 1, none⟩ (.int .i64 ((rd_T73 l0_2 x10_1).f1)))).cell? _ = some _ from hx156_0)); (try have hy156_1 := fun (n_ : Nat) => (show ((((w21.drewN n_).setCell ⟨gb153, 0, none⟩ (.int .i64 ((rd_T73 l0_2 x10_1).f0))).setCell ⟨gb153, 1, none⟩ (.int .i64 ((rd_T73 l0_2 x10_1).f1)))).cell? _ = some _ from hx156_1)); clear hn156_0; clear hn156_1; replace p156 := eq_true p156; replace q156 := eq_true q156) | (go_at_call 98; (with_reducible refine (spec_l01Member.calls ((rd_T73 l0_2 x10_1).f0) true _ A6.out).mono ?_); rintro e w' ⟨rfl, ⟨nd, rfl⟩⟩; (try exact d1_)) | (go_at_call 99; (with_reducible refine (spec_l00In.calls ((rd_T73 l0_2 x10_1).f1) 0 1000000000 true _ A8.out).mono ?_); rintro e w' ⟨rfl, ⟨nd, rfl⟩⟩; (try exact d1_))); try go_wp2_with (first | ((with_reducible refine gate_dst (N := 4) rfl ?_); refine bx_ 4 #[.int .i64 0, .int .i64 0] 73 ?_; intro gb153 hg w21 hbox hb; have GW153 := b6_ hg HB; have GE153 := b6_ hg HB; have NB0_153 := b4_ hg BK0; have NB153_0 := b5_ hg BK0; replace BK0 := b3_ BK0 hb; replace HB := A_ (below_step (y1_ HB.out) hb); have BK153 := A_ (hbox); clear hb hbox hg; have hnb22 := NB153_0.out; have hnc22 := NB0_153.out; have hcz23_0 := c1_ BK153 0 (.int .i64 0); have hcz23_1 := c1_ BK153 1 (.int .i64 0); have hfz23_0 := f1_ BK153 0; have hfz23_1 := f1_ BK153 1; have hcz24_0 := c1_ BK0 0 (.slice A0_0 l0_0.length c0_0); have hcz24_1 := c1_ BK0 1 (.slice A0_1 l0_1.length c0_1); have hcz24_2 := c1_ BK0 2 (.slice (some ad152) l0_2.length c0_2); have hfz24_0 := f1_ BK0 0; have hfz24_1 := f1_ BK0 1; have hfz24_2 := f1_ BK0 2; have p156 : 0 ≤ ((ji11) : Int) := o1_; have q156 : (ji11) < (l0_2.length : Int) := o1_; obtain ⟨ad156, e156, hx156_0, hx156_1⟩ := at_T73 HR0_2.out (ji11) p156 q156; obtain rfl : ad152 = ad156 := (by injection e156); have hn156_0 : ad152.block ≠ gb153 := Nat.ne_of_lt (Nat.lt_of_lt_of_le (by have := World.block_lt_of_cell? _ _ hx156_0; first | rwa [add_block] at this | exact this) GW153.out); have hn156_1 : ad152.block ≠ gb153 := Nat.ne_of_lt (Nat.lt_of_lt_of_le (by have := World.block_lt_of_cell? _ _ hx156_0; first | rwa [add_block] at this | exact this) GW153.out); replace hx156_0 := (HB.out.cell (World.block_lt_of_cell? w _ hx156_0)).trans hx156_0; replace hx156_1 := (HB.out.cell (World.block_lt_of_cell? w _ hx156_1)).trans hx156_1; replace hx156_0 := (cell_far (p := ⟨gb153, 0, none⟩) (by first | (rw [add_block]; exact hn156_0) | (show (Addr.add _ _).block ≠ _; rw [add_block]; exact hn156_0) | exact hn156_0) (.int .i64 ((rd_T73 l0_2 x10_1).f0))).trans hx156_0; replace hx156_1 := (cell_far (p := ⟨gb153, 0, none⟩) (by first | (rw [add_block]; exact hn156_0) | (show (Addr.add _ _).block ≠ _; rw [add_block]; exact hn156_0) | exact hn156_0) (.int .i64 ((rd_T73 l0_2 x10_1).f0))).trans hx156_1; replace hx156_0 := (cell_far (p := ⟨gb153, 1, none⟩) (by first | (rw [add_block]; exact hn156_1) | (show (Addr.add _ _).block ≠ _; rw [add_block]; exact hn156_1) | exact hn156_1) (.int .i64 ((rd_T73 l0_2 x10_1).f1))).trans hx156_0; replace hx156_1 := (cell_far (p := ⟨gb153, 1, none⟩) (by first | (rw [add_block]; exact hn156_1) | (show (Addr.add _ _).block ≠ _; rw [add_block]; exact hn156_1) | exact hn156_1) (.int .i64 ((rd_T73 l0_2 x10_1).f1))).trans hx156_1; (try have hy156_0 := fun (n_ : Nat) => (show ((((w21.drewN n_).setCell ⟨gb153, 0, none⟩ (.int .i64 ((rd_T73 l0_2 x10_1).f0))).setCell ⟨gb153, 1, none⟩ (.int .i64 ((rd_T73 l0_2 x10_1).f1)))).cell? _ = some _ from hx156_0)); (try have hy156_1 := fun (n_ : Nat) => (show ((((w21.drewN n_).setCell ⟨gb153, 0, none⟩ (.int .i64 ((rd_T73 l0_2 x10_1).f0))).setCell ⟨gb153, 1, none⟩ (.int .i64 ((rd_T73 l0_2 x10_1).f1)))).cell? _ = some _ from hx156_1)); clear hn156_0; clear hn156_1; replace p156 := eq_true p156; replace q156 := eq_true q156) | (go_at_call 98; (with_reducible refine (spec_l01Member.calls ((rd_T73 l0_2 x10_1).f0) true _ A6.out).mono ?_); rintro e w' ⟨rfl, ⟨nd, rfl⟩⟩; (try exact d1_)) | (go_at_call 99; (with_reducible refine (spec_l00In.calls ((rd_T73 l0_2 x10_1).f1) 0 1000000000 true _ A8.out).mono ?_); rintro e w' ⟨rfl, ⟨nd, rfl⟩⟩; (try exact d1_))))
 go_roundg k1
 case measure => have := HK1.out; omega
 case rel => exact ⟨(wrap64 (x10_1 + 1)), s1_, H', ⟨by have := HK1.out; omega⟩, ⟨by refine b1_ ?_; refine blk_far ?_ NB0_153.out _; refine b1_ ?_; refine blk_far ?_ NB0_153.out _; refine b1_ ?_; exact BK0.out⟩, ⟨by repeat (first | (with_reducible first | exact HB.out | apply below_alloc | apply pw_below_drewN | apply below_drew1 | refine below_set ?_ GE153.out) | exact HB.out)⟩⟩}}
 {
 rw [if_neg c13] at H
 exact absurd H (by simp)}}
 {
 rw [if_neg c12] at H
 exact absurd H (by simp)}}
 {
 rw [if_neg c10] at H
 have c10b0 : decide (0 < x10_1) = false := decide_eq_false c10
 clear c10
 have H' := A_ H
 clear H
 have hcz25_0 := c1_ BK0 0 (.slice A0_0 l0_0.length c0_0)
 have hcz25_1 := c1_ BK0 1 (.slice A0_1 l0_1.length c0_1)
 have hcz25_2 := c1_ BK0 2 (.slice A0_2 l0_2.length c0_2)
 have hfz25_0 := f1_ BK0 0
 have hfz25_1 := f1_ BK0 1
 have hfz25_2 := f1_ BK0 2
 have p152 : 0 ≤ (x10_1 : Int) := o1_
 have q152 : x10_1 < (l0_2.length : Int) := o1_
 obtain ⟨ad152, e152, hx152_0, hx152_1⟩ := at_T73 HR0_2.out x10_1 p152 q152
 cases e152
 replace hx152_0 := (HB.out.cell (World.block_lt_of_cell? w _ hx152_0)).trans hx152_0
 replace hx152_1 := (HB.out.cell (World.block_lt_of_cell? w _ hx152_1)).trans hx152_1
 replace p152 := eq_true p152
 replace q152 := eq_true q152
 go_wp2_with (first | ((with_reducible refine gate_dst (N := 4) rfl ?_); refine bx_ 4 #[.int .i64 0, .int .i64 0] 73 ?_; intro gb153 hg w26 hbox hb; have GW153 := b6_ hg HB; have GE153 := b6_ hg HB; have NB0_153 := b4_ hg BK0; have NB153_0 := b5_ hg BK0; replace BK0 := b3_ BK0 hb; replace HB := A_ (below_step (y1_ HB.out) hb); have BK153 := A_ (hbox); clear hb hbox hg; have hnb27 := NB153_0.out; have hnc27 := NB0_153.out; have hcz28_0 := c1_ BK153 0 (.int .i64 0); have hcz28_1 := c1_ BK153 1 (.int .i64 0); have hfz28_0 := f1_ BK153 0; have hfz28_1 := f1_ BK153 1) | (go_at_call 98; (with_reducible refine (spec_l01Member.calls ((rd_T73 l0_2 x10_1).f0) true _ A6.out).mono ?_); rintro e w' ⟨rfl, ⟨nd, rfl⟩⟩; (try exact d1_)) | (go_at_call 99; (with_reducible refine (spec_l00In.calls ((rd_T73 l0_2 x10_1).f1) 0 1000000000 true _ A8.out).mono ?_); rintro e w' ⟨rfl, ⟨nd, rfl⟩⟩; (try exact d1_)))
 repeat (go_quiet (first | ((with_reducible refine gate_dst (N := 4) rfl ?_); refine bx_ 4 #[.int .i64 0, .int .i64 0] 73 ?_; intro gb153 hg w26 hbox hb; have GW153 := b6_ hg HB; have GE153 := b6_ hg HB; have NB0_153 := b4_ hg BK0; have NB153_0 := b5_ hg BK0; replace BK0 := b3_ BK0 hb; replace HB := A_ (below_step (y1_ HB.out) hb); have BK153 := A_ (hbox); clear hb hbox hg; have hnb27 := NB153_0.out; have hnc27 := NB0_153.out; have hcz28_0 := c1_ BK153 0 (.int .i64 0); have hcz28_1 := c1_ BK153 1 (.int .i64 0); have hfz28_0 := f1_ BK153 0; have hfz28_1 := f1_ BK153 1) | (go_at_call 98; (with_reducible refine (spec_l01Member.calls ((rd_T73 l0_2 x10_1).f0) true _ A6.out).mono ?_); rintro e w' ⟨rfl, ⟨nd, rfl⟩⟩; (try exact d1_)) | (go_at_call 99; (with_reducible refine (spec_l00In.calls ((rd_T73 l0_2 x10_1).f1) 0 1000000000 true _ A8.out).mono ?_); rintro e w' ⟨rfl, ⟨nd, rfl⟩⟩; (try exact d1_))); try go_wp2_with (first | ((with_reducible refine gate_dst (N := 4) rfl ?_); refine bx_ 4 #[.int .i64 0, .int .i64 0] 73 ?_; intro gb153 hg w26 hbox hb; have GW153 := b6_ hg HB; have GE153 := b6_ hg HB; have NB0_153 := b4_ hg BK0; have NB153_0 := b5_ hg BK0; replace BK0 := b3_ BK0 hb; replace HB := A_ (below_step (y1_ HB.out) hb); have BK153 := A_ (hbox); clear hb hbox hg; have hnb27 := NB153_0.out; have hnc27 := NB0_153.out; have hcz28_0 := c1_ BK153 0 (.int .i64 0); have hcz28_1 := c1_ BK153 1 (.int .i64 0); have hfz28_0 := f1_ BK153 0; have hfz28_1 := f1_ BK153 1) | (go_at_call 98; (with_reducible refine (spec_l01Member.calls ((rd_T73 l0_2 x10_1).f0) true _ A6.out).mono ?_); rintro e w' ⟨rfl, ⟨nd, rfl⟩⟩; (try exact d1_)) | (go_at_call 99; (with_reducible refine (spec_l00In.calls ((rd_T73 l0_2 x10_1).f1) 0 1000000000 true _ A8.out).mono ?_); rintro e w' ⟨rfl, ⟨nd, rfl⟩⟩; (try exact d1_))))
 go_roundg k1
 case measure => have := HK1.out; omega
 case rel => exact ⟨(wrap64 (x10_1 + 1)), s1_, H', ⟨by have := HK1.out; omega⟩, ⟨by refine b1_ ?_; refine blk_far ?_ NB0_153.out _; refine b1_ ?_; refine blk_far ?_ NB0_153.out _; refine b1_ ?_; exact BK0.out⟩, ⟨by repeat (first | (with_reducible first | exact HB.out | apply below_alloc | apply pw_below_drewN | apply below_drew1 | refine below_set ?_ GE153.out) | exact HB.out)⟩⟩}}
 {
 replace c9 := Bool.eq_false_iff.mpr c9
 subst c9
 have H1 : (some false) = some r := by rw [if_neg (show ¬ (false = true) by decide)] at H; exact H
 clear H
 have H := H1
 clear H1
 obtain rfl := Option.some.inj H
 have hcz29_0 := c1_ BK0 0 (.slice A0_0 l0_0.length c0_0)
 have hcz29_1 := c1_ BK0 1 (.slice A0_1 l0_1.length c0_1)
 have hcz29_2 := c1_ BK0 2 (.slice A0_2 l0_2.length c0_2)
 have hfz29_0 := f1_ BK0 0
 have hfz29_1 := f1_ BK0 1
 have hfz29_2 := f1_ BK0 2
 have p152 : 0 ≤ (x10_1 : Int) := o1_
 have q152 : x10_1 < (l0_2.length : Int) := o1_
 obtain ⟨ad152, e152, hx152_0, hx152_1⟩ := at_T73 HR0_2.out x10_1 p152 q152
 cases e152
 replace hx152_0 := (HB.out.cell (World.block_lt_of_cell? w _ hx152_0)).trans hx152_0
 replace hx152_1 := (HB.out.cell (World.block_lt_of_cell? w _ hx152_1)).trans hx152_1
 replace p152 := eq_true p152
 replace q152 := eq_true q152
 go_wp2_with (first | ((with_reducible refine gate_dst (N := 4) rfl ?_); refine bx_ 4 #[.int .i64 0, .int .i64 0] 73 ?_; intro gb153 hg w30 hbox hb; have GW153 := b6_ hg HB; have GE153 := b6_ hg HB; have NB0_153 := b4_ hg BK0; have NB153_0 := b5_ hg BK0; replace BK0 := b3_ BK0 hb; replace HB := A_ (below_step (y1_ HB.out) hb); have BK153 := A_ (hbox); clear hb hbox hg; have hnb31 := NB153_0.out; have hnc31 := NB0_153.out; have hcz32_0 := c1_ BK153 0 (.int .i64 0); have hcz32_1 := c1_ BK153 1 (.int .i64 0); have hfz32_0 := f1_ BK153 0; have hfz32_1 := f1_ BK153 1) | (go_at_call 98; (with_reducible refine (spec_l01Member.calls ((rd_T73 l0_2 x10_1).f0) true _ A6.out).mono ?_); rintro e w' ⟨rfl, ⟨nd, rfl⟩⟩; (try exact d1_)) | (go_at_call 99; (with_reducible refine (spec_l00In.calls ((rd_T73 l0_2 x10_1).f1) 0 1000000000 false _ A8.out).mono ?_); rintro e w' ⟨rfl, ⟨nd, rfl⟩⟩; (try exact d1_)))
 repeat (go_quiet (first | ((with_reducible refine gate_dst (N := 4) rfl ?_); refine bx_ 4 #[.int .i64 0, .int .i64 0] 73 ?_; intro gb153 hg w30 hbox hb; have GW153 := b6_ hg HB; have GE153 := b6_ hg HB; have NB0_153 := b4_ hg BK0; have NB153_0 := b5_ hg BK0; replace BK0 := b3_ BK0 hb; replace HB := A_ (below_step (y1_ HB.out) hb); have BK153 := A_ (hbox); clear hb hbox hg; have hnb31 := NB153_0.out; have hnc31 := NB0_153.out; have hcz32_0 := c1_ BK153 0 (.int .i64 0); have hcz32_1 := c1_ BK153 1 (.int .i64 0); have hfz32_0 := f1_ BK153 0; have hfz32_1 := f1_ BK153 1) | (go_at_call 98; (with_reducible refine (spec_l01Member.calls ((rd_T73 l0_2 x10_1).f0) true _ A6.out).mono ?_); rintro e w' ⟨rfl, ⟨nd, rfl⟩⟩; (try exact d1_)) | (go_at_call 99; (with_reducible refine (spec_l00In.calls ((rd_T73 l0_2 x10_1).f1) 0 1000000000 false _ A8.out).mono ?_); rintro e w' ⟨rfl, ⟨nd, rfl⟩⟩; (try exact d1_))); try go_wp2_with (first | ((with_reducible refine gate_dst (N := 4) rfl ?_); refine bx_ 4 #[.int .i64 0, .int .i64 0] 73 ?_; intro gb153 hg w30 hbox hb; have GW153 := b6_ hg HB; have GE153 := b6_ hg HB; have NB0_153 := b4_ hg BK0; have NB153_0 := b5_ hg BK0; replace BK0 := b3_ BK0 hb; replace HB := A_ (below_step (y1_ HB.out) hb); have BK153 := A_ (hbox); clear hb hbox hg; have hnb31 := NB153_0.out; have hnc31 := NB0_153.out; have hcz32_0 := c1_ BK153 0 (.int .i64 0); have hcz32_1 := c1_ BK153 1 (.int .i64 0); have hfz32_0 := f1_ BK153 0; have hfz32_1 := f1_ BK153 1) | (go_at_call 98; (with_reducible refine (spec_l01Member.calls ((rd_T73 l0_2 x10_1).f0) true _ A6.out).mono ?_); rintro e w' ⟨rfl, ⟨nd, rfl⟩⟩; (try exact d1_)) | (go_at_call 99; (with_reducible refine (spec_l00In.calls ((rd_T73 l0_2 x10_1).f1) 0 1000000000 false _ A8.out).mono ?_); rintro e w' ⟨rfl, ⟨nd, rfl⟩⟩; (try exact d1_))))
 go_ret
 exact ⟨e1_, by repeat (first | (with_reducible first | exact HB.out | apply below_alloc | apply pw_below_drewN | apply below_drew1 | refine below_set ?_ GE153.out) | exact HB.out)⟩}}
 {
 replace c7 := Bool.eq_false_iff.mpr c7
 subst c7
 have H1 : (some false) = some r := by rw [if_neg (show ¬ (false = true) by decide)] at H; exact H
 clear H
 have H := H1
 clear H1
 obtain rfl := Option.some.inj H
 have hcz33_0 := c1_ BK0 0 (.slice A0_0 l0_0.length c0_0)
 have hcz33_1 := c1_ BK0 1 (.slice A0_1 l0_1.length c0_1)
 have hcz33_2 := c1_ BK0 2 (.slice A0_2 l0_2.length c0_2)
 have hfz33_0 := f1_ BK0 0
 have hfz33_1 := f1_ BK0 1
 have hfz33_2 := f1_ BK0 2
 have p152 : 0 ≤ (x10_1 : Int) := o1_
 have q152 : x10_1 < (l0_2.length : Int) := o1_
 obtain ⟨ad152, e152, hx152_0, hx152_1⟩ := at_T73 HR0_2.out x10_1 p152 q152
 cases e152
 replace hx152_0 := (HB.out.cell (World.block_lt_of_cell? w _ hx152_0)).trans hx152_0
 replace hx152_1 := (HB.out.cell (World.block_lt_of_cell? w _ hx152_1)).trans hx152_1
 replace p152 := eq_true p152
 replace q152 := eq_true q152
 go_wp2_with (first | ((with_reducible refine gate_dst (N := 4) rfl ?_); refine bx_ 4 #[.int .i64 0, .int .i64 0] 73 ?_; intro gb153 hg w34 hbox hb; have GW153 := b6_ hg HB; have GE153 := b6_ hg HB; have NB0_153 := b4_ hg BK0; have NB153_0 := b5_ hg BK0; replace BK0 := b3_ BK0 hb; replace HB := A_ (below_step (y1_ HB.out) hb); have BK153 := A_ (hbox); clear hb hbox hg; have hnb35 := NB153_0.out; have hnc35 := NB0_153.out; have hcz36_0 := c1_ BK153 0 (.int .i64 0); have hcz36_1 := c1_ BK153 1 (.int .i64 0); have hfz36_0 := f1_ BK153 0; have hfz36_1 := f1_ BK153 1) | (go_at_call 98; (with_reducible refine (spec_l01Member.calls ((rd_T73 l0_2 x10_1).f0) false _ A6.out).mono ?_); rintro e w' ⟨rfl, ⟨nd, rfl⟩⟩; (try exact d1_)))
 repeat (go_quiet (first | ((with_reducible refine gate_dst (N := 4) rfl ?_); refine bx_ 4 #[.int .i64 0, .int .i64 0] 73 ?_; intro gb153 hg w34 hbox hb; have GW153 := b6_ hg HB; have GE153 := b6_ hg HB; have NB0_153 := b4_ hg BK0; have NB153_0 := b5_ hg BK0; replace BK0 := b3_ BK0 hb; replace HB := A_ (below_step (y1_ HB.out) hb); have BK153 := A_ (hbox); clear hb hbox hg; have hnb35 := NB153_0.out; have hnc35 := NB0_153.out; have hcz36_0 := c1_ BK153 0 (.int .i64 0); have hcz36_1 := c1_ BK153 1 (.int .i64 0); have hfz36_0 := f1_ BK153 0; have hfz36_1 := f1_ BK153 1) | (go_at_call 98; (with_reducible refine (spec_l01Member.calls ((rd_T73 l0_2 x10_1).f0) false _ A6.out).mono ?_); rintro e w' ⟨rfl, ⟨nd, rfl⟩⟩; (try exact d1_))); try go_wp2_with (first | ((with_reducible refine gate_dst (N := 4) rfl ?_); refine bx_ 4 #[.int .i64 0, .int .i64 0] 73 ?_; intro gb153 hg w34 hbox hb; have GW153 := b6_ hg HB; have GE153 := b6_ hg HB; have NB0_153 := b4_ hg BK0; have NB153_0 := b5_ hg BK0; replace BK0 := b3_ BK0 hb; replace HB := A_ (below_step (y1_ HB.out) hb); have BK153 := A_ (hbox); clear hb hbox hg; have hnb35 := NB153_0.out; have hnc35 := NB0_153.out; have hcz36_0 := c1_ BK153 0 (.int .i64 0); have hcz36_1 := c1_ BK153 1 (.int .i64 0); have hfz36_0 := f1_ BK153 0; have hfz36_1 := f1_ BK153 1) | (go_at_call 98; (with_reducible refine (spec_l01Member.calls ((rd_T73 l0_2 x10_1).f0) false _ A6.out).mono ?_); rintro e w' ⟨rfl, ⟨nd, rfl⟩⟩; (try exact d1_))))
 go_ret
 exact ⟨e1_, by repeat (first | (with_reducible first | exact HB.out | apply below_alloc | apply pw_below_drewN | apply below_drew1 | refine below_set ?_ GE153.out) | exact HB.out)⟩}}
 {
 rw [if_neg c5] at H
 exact absurd H (by simp)}}
 {
 rw [if_neg c4] at H
 exact absurd H (by simp)}}
 {
 rw [if_neg c3] at H
 have c3b0 : decide (x10_1 < (l0_2.length : Int)) = false := decide_eq_false c3
 clear c3
 by_cases c37 : (l0_2.length : Int) ≤ 30
 {
 rw [if_pos c37] at H
 have c37b0 : decide ((l0_2.length : Int) ≤ 30) = true := decide_eq_true c37
 have c37b1 : decide (l0_2.length ≤ 30) = true := decide_eq_true (by omega)
 clear c37
 replace H := Option.bind_eq_some_iff.mp H
 obtain ⟨t150, A380, H⟩ := H
 replace H : (if t150 = true then ((spec_l05Leases.f k1 l0_1).bind fun t151 => (some t151)) else (some false)) = some r := H
 have A38 := A_ A380
 clear A380
 by_cases c39 : t150 = true
 {
 subst c39
 have H1 : ((spec_l05Leases.f k1 l0_1).bind fun t151 => (some t151)) = some r := by rw [if_pos rfl] at H; exact H
 clear H
 have H := H1
 clear H1
 replace H := Option.bind_eq_some_iff.mp H
 obtain ⟨t151, A400, H⟩ := H
 replace H : (some t151) = some r := H
 have A40 := A_ A400
 clear A400
 obtain rfl := Option.some.inj H
 have hcz41_0 := c1_ BK0 0 (.slice A0_0 l0_0.length c0_0)
 have hcz41_1 := c1_ BK0 1 (.slice A0_1 l0_1.length c0_1)
 have hcz41_2 := c1_ BK0 2 (.slice A0_2 l0_2.length c0_2)
 have hfz41_0 := f1_ BK0 0
 have hfz41_1 := f1_ BK0 1
 have hfz41_2 := f1_ BK0 2
 go_wp2_with (first | (go_at_call 100; (with_reducible refine (spec_l05Leases.calls k1 _ _ l0_0 true _ ?side1 ?side2 A38.out).mono ?_); (case side1 => exact y2_ (Kd.C_below HR0_0.out HB.out)); (case side2 => exact HC0_0.out); rintro e w42 ⟨rfl, hb⟩; replace BK0 := b3_ BK0 hb; replace HB := A_ (below_step (y1_ HB.out) hb); (try clear hb); (try clear hb2); (try clear hk); (try clear hi); have hcz43_0 := c1_ BK0 0 (.slice A0_0 l0_0.length c0_0); have hcz43_1 := c1_ BK0 1 (.slice A0_1 l0_1.length c0_1); have hcz43_2 := c1_ BK0 2 (.slice A0_2 l0_2.length c0_2); have hfz43_0 := f1_ BK0 0; have hfz43_1 := f1_ BK0 1; have hfz43_2 := f1_ BK0 2) | (go_at_call 100; (with_reducible refine (spec_l05Leases.calls k1 _ _ l0_1 t151 _ ?side1 ?side2 A40.out).mono ?_); (case side1 => exact y2_ (Kd.C_below HR0_1.out HB.out)); (case side2 => exact HC0_1.out); rintro e w44 ⟨rfl, hb⟩; replace BK0 := b3_ BK0 hb; replace HB := A_ (below_step (y1_ HB.out) hb); (try clear hb); (try clear hb2); (try clear hk); (try clear hi)))
 repeat (go_quiet (first | (go_at_call 100; (with_reducible refine (spec_l05Leases.calls k1 _ _ l0_0 true _ ?side1 ?side2 A38.out).mono ?_); (case side1 => exact y2_ (Kd.C_below HR0_0.out HB.out)); (case side2 => exact HC0_0.out); rintro e w42 ⟨rfl, hb⟩; replace BK0 := b3_ BK0 hb; replace HB := A_ (below_step (y1_ HB.out) hb); (try clear hb); (try clear hb2); (try clear hk); (try clear hi); have hcz43_0 := c1_ BK0 0 (.slice A0_0 l0_0.length c0_0); have hcz43_1 := c1_ BK0 1 (.slice A0_1 l0_1.length c0_1); have hcz43_2 := c1_ BK0 2 (.slice A0_2 l0_2.length c0_2); have hfz43_0 := f1_ BK0 0; have hfz43_1 := f1_ BK0 1; have hfz43_2 := f1_ BK0 2) | (go_at_call 100; (with_reducible refine (spec_l05Leases.calls k1 _ _ l0_1 t151 _ ?side1 ?side2 A40.out).mono ?_); (case side1 => exact y2_ (Kd.C_below HR0_1.out HB.out)); (case side2 => exact HC0_1.out); rintro e w44 ⟨rfl, hb⟩; replace BK0 := b3_ BK0 hb; replace HB := A_ (below_step (y1_ HB.out) hb); (try clear hb); (try clear hb2); (try clear hk); (try clear hi))); try go_wp2_with (first | (go_at_call 100; (with_reducible refine (spec_l05Leases.calls k1 _ _ l0_0 true _ ?side1 ?side2 A38.out).mono ?_); (case side1 => exact y2_ (Kd.C_below HR0_0.out HB.out)); (case side2 => exact HC0_0.out); rintro e w42 ⟨rfl, hb⟩; replace BK0 := b3_ BK0 hb; replace HB := A_ (below_step (y1_ HB.out) hb); (try clear hb); (try clear hb2); (try clear hk); (try clear hi); have hcz43_0 := c1_ BK0 0 (.slice A0_0 l0_0.length c0_0); have hcz43_1 := c1_ BK0 1 (.slice A0_1 l0_1.length c0_1); have hcz43_2 := c1_ BK0 2 (.slice A0_2 l0_2.length c0_2); have hfz43_0 := f1_ BK0 0; have hfz43_1 := f1_ BK0 1; have hfz43_2 := f1_ BK0 2) | (go_at_call 100; (with_reducible refine (spec_l05Leases.calls k1 _ _ l0_1 t151 _ ?side1 ?side2 A40.out).mono ?_); (case side1 => exact y2_ (Kd.C_below HR0_1.out HB.out)); (case side2 => exact HC0_1.out); rintro e w44 ⟨rfl, hb⟩; replace BK0 := b3_ BK0 hb; replace HB := A_ (below_step (y1_ HB.out) hb); (try clear hb); (try clear hb2); (try clear hk); (try clear hi))))
 go_ret
 exact ⟨e1_, y1_ HB.out⟩}
 {
 replace c39 := Bool.eq_false_iff.mpr c39
 subst c39
 have H1 : (some false) = some r := by rw [if_neg (show ¬ (false = true) by decide)] at H; exact H
 clear H
 have H := H1
 clear H1
 obtain rfl := Option.some.inj H
 have hcz45_0 := c1_ BK0 0 (.slice A0_0 l0_0.length c0_0)
 have hcz45_1 := c1_ BK0 1 (.slice A0_1 l0_1.length c0_1)
 have hcz45_2 := c1_ BK0 2 (.slice A0_2 l0_2.length c0_2)
 have hfz45_0 := f1_ BK0 0
 have hfz45_1 := f1_ BK0 1
 have hfz45_2 := f1_ BK0 2
 go_wp2_with (first | (go_at_call 100; (with_reducible refine (spec_l05Leases.calls k1 _ _ l0_0 false _ ?side1 ?side2 A38.out).mono ?_); (case side1 => exact y2_ (Kd.C_below HR0_0.out HB.out)); (case side2 => exact HC0_0.out); rintro e w46 ⟨rfl, hb⟩; replace BK0 := b3_ BK0 hb; replace HB := A_ (below_step (y1_ HB.out) hb); (try clear hb); (try clear hb2); (try clear hk); (try clear hi)))
 repeat (go_quiet (first | (go_at_call 100; (with_reducible refine (spec_l05Leases.calls k1 _ _ l0_0 false _ ?side1 ?side2 A38.out).mono ?_); (case side1 => exact y2_ (Kd.C_below HR0_0.out HB.out)); (case side2 => exact HC0_0.out); rintro e w46 ⟨rfl, hb⟩; replace BK0 := b3_ BK0 hb; replace HB := A_ (below_step (y1_ HB.out) hb); (try clear hb); (try clear hb2); (try clear hk); (try clear hi))); try go_wp2_with (first | (go_at_call 100; (with_reducible refine (spec_l05Leases.calls k1 _ _ l0_0 false _ ?side1 ?side2 A38.out).mono ?_); (case side1 => exact y2_ (Kd.C_below HR0_0.out HB.out)); (case side2 => exact HC0_0.out); rintro e w46 ⟨rfl, hb⟩; replace BK0 := b3_ BK0 hb; replace HB := A_ (below_step (y1_ HB.out) hb); (try clear hb); (try clear hb2); (try clear hk); (try clear hi))))
 go_ret
 exact ⟨e1_, y1_ HB.out⟩}}
 {
 rw [if_neg c37] at H
 have c37b0 : decide ((l0_2.length : Int) ≤ 30) = false := decide_eq_false c37
 have c37b1 : decide (l0_2.length ≤ 30) = false := decide_eq_false (by omega)
 clear c37
 obtain rfl := Option.some.inj H
 have hcz47_0 := c1_ BK0 0 (.slice A0_0 l0_0.length c0_0)
 have hcz47_1 := c1_ BK0 1 (.slice A0_1 l0_1.length c0_1)
 have hcz47_2 := c1_ BK0 2 (.slice A0_2 l0_2.length c0_2)
 have hfz47_0 := f1_ BK0 0
 have hfz47_1 := f1_ BK0 1
 have hfz47_2 := f1_ BK0 2
 go_wp2
 repeat (go_quiet (fail); try go_wp2)
 go_ret
 exact ⟨e1_, y1_ HB.out⟩}}}}

/-! ### spec_l05Give: function 82 -/
abbrev spec_l05Give.T : Bool := true
abbrev spec_l05Give.F : Bool := false
def spec_l05Give.f (k : Nat) (l0_0 : List (S63)) (l0_1 : List (S63)) (l0_2 : List (S73)) : Option ((List (S63)) × (List (S63)) × (List (S73)) × Bool) := (spec_l05Is.f k l0_0 l0_1 l0_2).bind fun t159 => (if t159 = true then (some (l0_0, l0_1, l0_2, true)) else (some (([] : List (S63)), ([] : List (S63)), ([] : List (S73)), false)))
theorem spec_l05Give.mono : ∀ a0 a1 a2 k, LeO (spec_l05Give.f k a0 a1 a2) (spec_l05Give.f (k + 1) a0 a1 a2) := by
  intro a0 a1 a2 k
  unfold spec_l05Give.f
  repeat' first
      | (with_reducible exact spec_l05Is.mono _ _ _ _)
      | (with_reducible exact LeO.refl _)
      | (with_reducible exact LeO.none _)
      | (with_reducible refine LeO.ite ?_ ?_)
      | (with_reducible refine LeO.bind ?_ (fun _ => ?_))
      | exact spec_l05Is.mono _ _ _ _
      | exact LeO.none _
      | refine LeO.ite ?_ ?_
      | refine LeO.bind ?_ (fun _ => ?_)
set_option maxHeartbeats 8000000 in
set_option maxRecDepth 100000 in
theorem spec_l05Give.calls (k : Nat) (P0_0_ : Nat → Prop) (u9000_ : Value) (l0_0 : List (S63)) (P0_1_ : Nat → Prop) (u9001_ : Value) (l0_1 : List (S63)) (P0_2_ : Nat → Prop) (u9002_ : Value) (l0_2 : List (S73)) (r1 : List (S63)) (r2 : List (S63)) (r3 : List (S73)) (r4 : Bool) (w0 w : World) (hB : Below w0.heap.size w0 w) (ho0_0 : Kd.R k63 63 w w0.heap.size P0_0_ u9000_ l0_0) (hp0_0_0_1 : ∀ k_, P0_0_ k_ → ¬ P0_1_ k_) (ho0_1 : Kd.R k63 63 w w0.heap.size P0_1_ u9001_ l0_1) (hp0_1_0_0 : ∀ k_, P0_1_ k_ → ¬ P0_0_ k_) (ho0_2 : Kd.R k73 73 w w0.heap.size P0_2_ u9002_ l0_2) (h : spec_l05Give.f k l0_0 l0_1 l0_2 = some (r1, r2, r3, r4)) :
    Calls Try.prog 82 #[.agg #[u9000_, u9001_, u9002_]] w fun e w' => ∃ v0_ v1_ v2_ : Value, e = .returned (.tuple #[.agg #[v0_, v1_, v2_], .bool r4]) ∧ Kd.R k63 63 w' w0.heap.size (fun k_ => ((P0_0_ k_ ∨ P0_1_ k_ ∨ P0_2_ k_) ∨ w.heap.size ≤ k_) ∧ some k_ ≠ (v1_ : Value).ownBlock) v0_ r1 ∧ Kd.R k63 63 w' w0.heap.size (fun k_ => ((P0_0_ k_ ∨ P0_1_ k_ ∨ P0_2_ k_) ∨ w.heap.size ≤ k_) ∧ some k_ ≠ (v0_ : Value).ownBlock) v1_ r2 ∧ Kd.R k73 73 w' w0.heap.size (fun k_ => ((P0_0_ k_ ∨ P0_1_ k_ ∨ P0_2_ k_) ∨ w.heap.size ≤ k_)) v2_ r3 ∧ Below w0.heap.size w0 w' ∧ Kept w w' (fun k_ => P0_0_ k_ ∨ P0_1_ k_ ∨ P0_2_ k_) := by
 have hu27 := Try.underlying27
 have HO0_0 := A_ (show Kd.R k63 63 w w0.heap.size (fun k_ => ((P0_0_ k_ ∨ P0_1_ k_ ∨ P0_2_ k_) ∨ w.heap.size ≤ k_) ∧ some k_ ≠ (u9001_ : Value).ownBlock) u9000_ l0_0 from Kd.R_mono ho0_0 (fun k_ hk => ⟨(.inl (.inl hk)), fun e_ => hp0_0_0_1 k_ hk (ho0_1.1 k_ e_.symm)⟩))
 have HO0_1 := A_ (show Kd.R k63 63 w w0.heap.size (fun k_ => ((P0_0_ k_ ∨ P0_1_ k_ ∨ P0_2_ k_) ∨ w.heap.size ≤ k_) ∧ some k_ ≠ (u9000_ : Value).ownBlock) u9001_ l0_1 from Kd.R_mono ho0_1 (fun k_ hk => ⟨(.inl (.inr (.inl hk))), fun e_ => hp0_1_0_0 k_ hk (ho0_0.1 k_ e_.symm)⟩))
 have HO0_2 := A_ (show Kd.R k73 73 w w0.heap.size (fun k_ => ((P0_0_ k_ ∨ P0_1_ k_ ∨ P0_2_ k_) ∨ w.heap.size ≤ k_)) u9002_ l0_2 from Kd.R_mono ho0_2 (fun k_ hk => (.inl (.inr (.inr hk)))))
 have HK := A_ (Kept.refl w (fun k_ => P0_0_ k_ ∨ P0_1_ k_ ∨ P0_2_ k_))
 have HW0 := A_ hB.size
 have HB := A_ hB
 clear hB
 have H : ((spec_l05Is.f k l0_0 l0_1 l0_2).bind fun t159 => (if t159 = true then (some (l0_0, l0_1, l0_2, true)) else (some (([] : List (S63)), ([] : List (S63)), ([] : List (S73)), false)))) = some (r1, r2, r3, r4) := h
 clear h
 replace H := Option.bind_eq_some_iff.mp H
 obtain ⟨t159, A20, H⟩ := H
 replace H : (if t159 = true then (some (l0_0, l0_1, l0_2, true)) else (some (([] : List (S63)), ([] : List (S63)), ([] : List (S73)), false))) = some (r1, r2, r3, r4) := H
 have A2 := A_ A20
 clear A20
 by_cases c3 : t159 = true
 {
 subst c3
 have H1 : (some (l0_0, l0_1, l0_2, true)) = some (r1, r2, r3, r4) := by rw [if_pos rfl] at H; exact H
 clear H
 have H := H1
 clear H1
 simp only [Option.some.injEq, Prod.mk.injEq] at H
 obtain ⟨rfl, rfl, rfl, rfl⟩ := H
 obtain ⟨Ao4, co4, eo4⟩ := Kd.R_slice HO0_0.out
 subst eo4
 obtain ⟨Ao5, co5, eo5⟩ := Kd.R_slice HO0_1.out
 subst eo5
 obtain ⟨Ao6, co6, eo6⟩ := Kd.R_slice HO0_2.out
 subst eo6
 go_enter Try.func82, Try.ntmps82
 go_wp2_with (first | ((with_reducible refine gate_dst (N := 1) rfl ?_); refine bx_ 1 #[.slice Ao4 l0_0.length co4, .slice Ao5 l0_1.length co5, .slice Ao6 l0_2.length co6] 27 ?_; intro gb157 hg w7 hbox hb; have GW157 := A_ ((by rw [hg]; exact (by first | exact HK.out.1 | exact (show Kept w _ (fun k_ => P0_0_ k_ ∨ P0_1_ k_ ∨ P0_2_ k_) from by repeat (first | (with_reducible first | exact HK.out | apply Kept.alloc | apply Kept.drewN | apply Kept.drew) | exact HK.out)).1) : w.heap.size ≤ gb157)); have GE157 := A_ ((by rw [hg]; exact (below_size (y1_ HB.out)) : w0.heap.size ≤ gb157)); replace HO0_0 := r1_ HO0_0 hb; replace HO0_1 := r1_ HO0_1 hb; replace HO0_2 := r1_ HO0_2 hb; replace HK := A_ (Kept.below (S := (fun k_ => P0_0_ k_ ∨ P0_1_ k_ ∨ P0_2_ k_)) (by repeat (first | (with_reducible first | exact HK.out | apply Kept.alloc | apply Kept.drewN | apply Kept.drew) | exact HK.out)) hb); replace HB := A_ (below_step (y1_ HB.out) hb); have BK157 := A_ (hbox); clear hb hbox hg) | ((with_reducible refine gate_dst (N := 2) rfl ?_); refine bx_ 2 #[.slice none 0 0, .slice none 0 0, .slice none 0 0] 27 ?_; intro gb158 hg w8 hbox hb; have GW158 := A_ ((by rw [hg]; exact (by first | exact HK.out.1 | exact (show Kept w _ (fun k_ => P0_0_ k_ ∨ P0_1_ k_ ∨ P0_2_ k_) from by repeat (first | (with_reducible first | exact HK.out | apply Kept.alloc | apply Kept.drewN | apply Kept.drew) | exact HK.out)).1) : w.heap.size ≤ gb158)); have GE158 := A_ ((by rw [hg]; exact (below_size (y1_ HB.out)) : w0.heap.size ≤ gb158)); have NB157_158 := b4_ hg BK157; have NB158_157 := b5_ hg BK157; replace HO0_0 := r1_ HO0_0 hb; replace HO0_1 := r1_ HO0_1 hb; replace HO0_2 := r1_ HO0_2 hb; replace BK157 := b3_ BK157 hb; replace HK := A_ (Kept.below (S := (fun k_ => P0_0_ k_ ∨ P0_1_ k_ ∨ P0_2_ k_)) (by repeat (first | (with_reducible first | exact HK.out | apply Kept.alloc | apply Kept.drewN | apply Kept.drew) | exact HK.out)) hb); replace HB := A_ (below_step (y1_ HB.out) hb); have BK158 := A_ (hbox); clear hb hbox hg) | ((with_reducible refine gate_callee (f := 57) rfl ?_); refine goesL_ (some 4) rfl rfl Try.func57 s2_ rfl #[.pointer (some ⟨gb157, 0, none⟩)] rfl (by (try simp only [List.map_toArray, List.map_cons, List.map_nil]); first | done | rfl | (simp only [List.length_drop, List.length_take]; rfl)) ?_; (with_reducible refine (spec_l05Is.calls k gb157 Ao4 co4 l0_0 Ao5 co5 l0_1 Ao6 co6 l0_2 true _ ?side1 ?side2 ?side3 ?side4 ?side5 ?side6 ?side7 A2.out).mono ?_); (case side1 => exact (b1_ BK157.out)); (case side2 => exact y2_ (Kd.R_reads' HO0_0.out).2.2); (case side3 => exact (Kd.R_reads' HO0_0.out).2.1); (case side4 => exact y2_ (Kd.R_reads' HO0_1.out).2.2); (case side5 => exact (Kd.R_reads' HO0_1.out).2.1); (case side6 => exact y2_ (Kd.R_reads' HO0_2.out).2.2); (case side7 => exact (Kd.R_reads' HO0_2.out).2.1); rintro e w9 ⟨rfl, hb⟩; refine ⟨_, rfl, ?_⟩; replace HO0_0 := r1_ HO0_0 hb; replace HO0_1 := r1_ HO0_1 hb; replace HO0_2 := r1_ HO0_2 hb; replace BK157 := b3_ BK157 hb; replace BK158 := b3_ BK158 hb; replace HK := A_ (Kept.below (S := (fun k_ => P0_0_ k_ ∨ P0_1_ k_ ∨ P0_2_ k_)) (by repeat (first | (with_reducible first | exact HK.out | apply Kept.alloc | apply Kept.drewN | apply Kept.drew) | exact HK.out)) hb); replace HB := A_ (below_step (y1_ HB.out) hb); (try clear hb); (try clear hb2); (try clear hk); (try clear hi); have hnb10 := NB157_158.out; have hnc10 := NB158_157.out; have hcz11_0 := c1_ BK157 0 (.slice Ao4 l0_0.length co4); have hcz11_1 := c1_ BK157 1 (.slice Ao5 l0_1.length co5); have hcz11_2 := c1_ BK157 2 (.slice Ao6 l0_2.length co6); have hfz11_0 := f1_ BK157 0; have hfz11_1 := f1_ BK157 1; have hfz11_2 := f1_ BK157 2; have hcz12_0 := c1_ BK158 0 (.slice none 0 0); have hcz12_1 := c1_ BK158 1 (.slice none 0 0); have hcz12_2 := c1_ BK158 2 (.slice none 0 0); have hfz12_0 := f1_ BK158 0; have hfz12_1 := f1_ BK158 1; have hfz12_2 := f1_ BK158 2))
 refine bodyPost_ret (results_ct rfl _ _ gb158 27 #[.slice Ao4 l0_0.length co4, .slice Ao5 l0_1.length co5, .slice Ao6 l0_2.length co6] (0, 0) _ rfl (by refine b1_ ?_; refine blk_put3 (cs := #[.slice none 0 0, .slice none 0 0, .slice none 0 0]) ?_ rfl; refine b1_ ?_; exact BK158.out) Try.underlying27 rfl s2_) rfl ?_
 exact ⟨_, _, _, e1_, by refine b2_ ?_; exact Kd.R_mono (Kd.R_far3 (g := gb158) (Kd.R_types HO0_0.out BK158.out (by decide)) (fun _ hk => hk.2)) (fun _ hk => ⟨hk.1.1, hk.1.2⟩), by refine b2_ ?_; exact Kd.R_mono (Kd.R_far3 (g := gb158) (Kd.R_types HO0_1.out BK158.out (by decide)) (fun _ hk => hk.2)) (fun _ hk => ⟨hk.1.1, hk.1.2⟩), by refine b2_ ?_; exact Kd.R_mono (Kd.R_far3 (g := gb158) (Kd.R_types HO0_2.out BK158.out (by decide)) (fun _ hk => hk.2)) (fun _ hk => hk.1), by repeat (first | (with_reducible first | exact HB.out | apply below_alloc | apply pw_below_drewN | apply below_drew1 | refine below_set ?_ GE158.out) | exact HB.out), by repeat (first | (with_reducible first | exact HK.out | apply Kept.alloc | apply Kept.drewN | apply Kept.drew | refine Kept.setCell ?_ (.inr GW158.out) _) | exact HK.out)⟩}
 {
 replace c3 := Bool.eq_false_iff.mpr c3
 subst c3
 have H1 : (some (([] : List (S63)), ([] : List (S63)), ([] : List (S73)), false)) = some (r1, r2, r3, r4) := by rw [if_neg (show ¬ (false = true) by decide)] at H; exact H
 clear H
 have H := H1
 clear H1
 simp only [Option.some.injEq, Prod.mk.injEq] at H
 obtain ⟨rfl, rfl, rfl, rfl⟩ := H
 obtain ⟨Ao13, co13, eo13⟩ := Kd.R_slice HO0_0.out
 subst eo13
 obtain ⟨Ao14, co14, eo14⟩ := Kd.R_slice HO0_1.out
 subst eo14
 obtain ⟨Ao15, co15, eo15⟩ := Kd.R_slice HO0_2.out
 subst eo15
 go_enter Try.func82, Try.ntmps82
 go_wp2_with (first | ((with_reducible refine gate_dst (N := 1) rfl ?_); refine bx_ 1 #[.slice Ao13 l0_0.length co13, .slice Ao14 l0_1.length co14, .slice Ao15 l0_2.length co15] 27 ?_; intro gb157 hg w16 hbox hb; have GW157 := A_ ((by rw [hg]; exact (by first | exact HK.out.1 | exact (show Kept w _ (fun k_ => P0_0_ k_ ∨ P0_1_ k_ ∨ P0_2_ k_) from by repeat (first | (with_reducible first | exact HK.out | apply Kept.alloc | apply Kept.drewN | apply Kept.drew) | exact HK.out)).1) : w.heap.size ≤ gb157)); have GE157 := A_ ((by rw [hg]; exact (below_size (y1_ HB.out)) : w0.heap.size ≤ gb157)); replace HO0_0 := r1_ HO0_0 hb; replace HO0_1 := r1_ HO0_1 hb; replace HO0_2 := r1_ HO0_2 hb; replace HK := A_ (Kept.below (S := (fun k_ => P0_0_ k_ ∨ P0_1_ k_ ∨ P0_2_ k_)) (by repeat (first | (with_reducible first | exact HK.out | apply Kept.alloc | apply Kept.drewN | apply Kept.drew) | exact HK.out)) hb); replace HB := A_ (below_step (y1_ HB.out) hb); have BK157 := A_ (hbox); clear hb hbox hg) | ((with_reducible refine gate_dst (N := 2) rfl ?_); refine bx_ 2 #[.slice none 0 0, .slice none 0 0, .slice none 0 0] 27 ?_; intro gb158 hg w17 hbox hb; have GW158 := A_ ((by rw [hg]; exact (by first | exact HK.out.1 | exact (show Kept w _ (fun k_ => P0_0_ k_ ∨ P0_1_ k_ ∨ P0_2_ k_) from by repeat (first | (with_reducible first | exact HK.out | apply Kept.alloc | apply Kept.drewN | apply Kept.drew) | exact HK.out)).1) : w.heap.size ≤ gb158)); have GE158 := A_ ((by rw [hg]; exact (below_size (y1_ HB.out)) : w0.heap.size ≤ gb158)); have NB157_158 := b4_ hg BK157; have NB158_157 := b5_ hg BK157; replace HO0_0 := r1_ HO0_0 hb; replace HO0_1 := r1_ HO0_1 hb; replace HO0_2 := r1_ HO0_2 hb; replace BK157 := b3_ BK157 hb; replace HK := A_ (Kept.below (S := (fun k_ => P0_0_ k_ ∨ P0_1_ k_ ∨ P0_2_ k_)) (by repeat (first | (with_reducible first | exact HK.out | apply Kept.alloc | apply Kept.drewN | apply Kept.drew) | exact HK.out)) hb); replace HB := A_ (below_step (y1_ HB.out) hb); have BK158 := A_ (hbox); clear hb hbox hg) | ((with_reducible refine gate_callee (f := 57) rfl ?_); refine goesL_ (some 4) rfl rfl Try.func57 s2_ rfl #[.pointer (some ⟨gb157, 0, none⟩)] rfl (by (try simp only [List.map_toArray, List.map_cons, List.map_nil]); first | done | rfl | (simp only [List.length_drop, List.length_take]; rfl)) ?_; (with_reducible refine (spec_l05Is.calls k gb157 Ao13 co13 l0_0 Ao14 co14 l0_1 Ao15 co15 l0_2 false _ ?side1 ?side2 ?side3 ?side4 ?side5 ?side6 ?side7 A2.out).mono ?_); (case side1 => exact (b1_ BK157.out)); (case side2 => exact y2_ (Kd.R_reads' HO0_0.out).2.2); (case side3 => exact (Kd.R_reads' HO0_0.out).2.1); (case side4 => exact y2_ (Kd.R_reads' HO0_1.out).2.2); (case side5 => exact (Kd.R_reads' HO0_1.out).2.1); (case side6 => exact y2_ (Kd.R_reads' HO0_2.out).2.2); (case side7 => exact (Kd.R_reads' HO0_2.out).2.1); rintro e w18 ⟨rfl, hb⟩; refine ⟨_, rfl, ?_⟩; replace HO0_0 := r1_ HO0_0 hb; replace HO0_1 := r1_ HO0_1 hb; replace HO0_2 := r1_ HO0_2 hb; replace BK157 := b3_ BK157 hb; replace BK158 := b3_ BK158 hb; replace HK := A_ (Kept.below (S := (fun k_ => P0_0_ k_ ∨ P0_1_ k_ ∨ P0_2_ k_)) (by repeat (first | (with_reducible first | exact HK.out | apply Kept.alloc | apply Kept.drewN | apply Kept.drew) | exact HK.out)) hb); replace HB := A_ (below_step (y1_ HB.out) hb); (try clear hb); (try clear hb2); (try clear hk); (try clear hi); have hnb19 := NB158_157.out; have hnc19 := NB157_158.out; have hcz20_0 := c1_ BK158 0 (.slice none 0 0); have hcz20_1 := c1_ BK158 1 (.slice none 0 0); have hcz20_2 := c1_ BK158 2 (.slice none 0 0); have hfz20_0 := f1_ BK158 0; have hfz20_1 := f1_ BK158 1; have hfz20_2 := f1_ BK158 2))
 refine bodyPost_ret (results_ct rfl _ _ gb158 27 #[.slice none 0 0, .slice none 0 0, .slice none 0 0] (0, 0) _ rfl (by refine b1_ ?_; refine blk_put3 (cs := #[.slice none 0 0, .slice none 0 0, .slice none 0 0]) ?_ rfl; refine b1_ ?_; exact BK158.out) Try.underlying27 rfl s2_) rfl ?_
 exact ⟨_, _, _, e1_, by first | exact Kd.R_nil _ _ _ _ _ | exact Kd.N_nil _ _ _ _ _ | exact Kd.V_nil _ _ _ _ _ | exact Kd.Q_nil _ _ _ _ _ | exact Kd.S_nil _ _ _ _ _, by first | exact Kd.R_nil _ _ _ _ _ | exact Kd.N_nil _ _ _ _ _ | exact Kd.V_nil _ _ _ _ _ | exact Kd.Q_nil _ _ _ _ _ | exact Kd.S_nil _ _ _ _ _, by first | exact Kd.R_nil _ _ _ _ _ | exact Kd.N_nil _ _ _ _ _ | exact Kd.V_nil _ _ _ _ _ | exact Kd.Q_nil _ _ _ _ _ | exact Kd.S_nil _ _ _ _ _, by repeat (first | (with_reducible first | exact HB.out | apply below_alloc | apply pw_below_drewN | apply below_drew1 | refine below_set ?_ GE158.out) | exact HB.out), by repeat (first | (with_reducible first | exact HK.out | apply Kept.alloc | apply Kept.drewN | apply Kept.drew | refine Kept.setCell ?_ (.inr GW158.out) _) | exact HK.out)⟩}

/-! ### spec_l05Beat: function 75 -/
abbrev spec_l05Beat.T : Bool := true
abbrev spec_l05Beat.F : Bool := false
def spec_l05Beat.j0 : Nat → Int → Int → Int → Bool → List (S63) → List (S63) → List (S73) → Option ((List (S63)) × (List (S63)) × (List (S73)) × Bool)
  | 0, _, _, _, _, _, _, _ => none
  | k + 1, x1, x2, x3, x23, x1000, x1001, x1002 => if x23 = true then (some (([] : List (S63)), ([] : List (S63)), ([] : List (S73)), false)) else ((spec_l05Own.f x1000 x1001 x1002).bind fun bt164 => ((spec_l05Put.f k x1000 x1 (wrap64 (x2 + x3))).bind fun t174 => ((spec_l05Give.f k t174 bt164.2.1 bt164.2.2).bind fun bt177 => (some (bt177.1, bt177.2.1, bt177.2.2.1, bt177.2.2.2)))))
def spec_l05Beat.f (k : Nat) (l0_0 : List (S63)) (l0_1 : List (S63)) (l0_2 : List (S73)) (a1 : Int) (a2 : Int) (a3 : Int) : Option ((List (S63)) × (List (S63)) × (List (S73)) × Bool) := (spec_l01Member.f a1).bind fun t161 => (if t161 = true then ((spec_l01Tick.f a2).bind fun t162 => (if t162 = true then ((spec_l00In.f a3 1 1000).bind fun t163 => (spec_l05Beat.j0 k a1 a2 a3 (!t163) l0_0 l0_1 l0_2)) else (spec_l05Beat.j0 k a1 a2 a3 true l0_0 l0_1 l0_2))) else (spec_l05Beat.j0 k a1 a2 a3 true l0_0 l0_1 l0_2))
theorem spec_l05Beat.mono_l : ∀ k, (∀ y0 y1 y2 y3 y4 y5 y6, LeO (spec_l05Beat.j0 k y0 y1 y2 y3 y4 y5 y6) (spec_l05Beat.j0 (k + 1) y0 y1 y2 y3 y4 y5 y6))
  | 0 => fun _ _ _ _ _ _ _ r h => by simp [spec_l05Beat.j0] at h
  | k + 1 => by
    have ih0 := spec_l05Beat.mono_l k
    · intro y0 y1 y2 y3 y4 y5 y6
      unfold spec_l05Beat.j0
      repeat' first
      | (with_reducible exact ih0 _ _ _ _ _ _ _)
      | (with_reducible exact spec_l05Give.mono _ _ _ _)
      | (with_reducible exact spec_l05Put.mono _ _ _ _)
      | (with_reducible exact LeO.refl _)
      | (with_reducible exact LeO.none _)
      | (with_reducible refine LeO.ite ?_ ?_)
      | (with_reducible refine LeO.bind ?_ (fun _ => ?_))
      | exact ih0 _ _ _ _ _ _ _
      | exact spec_l05Give.mono _ _ _ _
      | exact spec_l05Put.mono _ _ _ _
      | exact LeO.none _
      | refine LeO.ite ?_ ?_
      | refine LeO.bind ?_ (fun _ => ?_)
theorem spec_l05Beat.mono : ∀ a0 a1 a2 a3 a4 a5 k, LeO (spec_l05Beat.f k a0 a1 a2 a3 a4 a5) (spec_l05Beat.f (k + 1) a0 a1 a2 a3 a4 a5) := by
  intro a0 a1 a2 a3 a4 a5 k
  have ih0 := spec_l05Beat.mono_l k
  unfold spec_l05Beat.f
  repeat' first
      | (with_reducible exact ih0 _ _ _ _ _ _ _)
      | (with_reducible exact spec_l05Give.mono _ _ _ _)
      | (with_reducible exact spec_l05Put.mono _ _ _ _)
      | (with_reducible exact LeO.refl _)
      | (with_reducible exact LeO.none _)
      | (with_reducible refine LeO.ite ?_ ?_)
      | (with_reducible refine LeO.bind ?_ (fun _ => ?_))
      | exact ih0 _ _ _ _ _ _ _
      | exact spec_l05Give.mono _ _ _ _
      | exact spec_l05Put.mono _ _ _ _
      | exact LeO.none _
      | refine LeO.ite ?_ ?_
      | refine LeO.bind ?_ (fun _ => ?_)
set_option maxHeartbeats 8000000 in
set_option maxRecDepth 100000 in
theorem spec_l05Beat.calls (k : Nat) (g0_ : Nat) (A0_0 : Option Addr) (c0_0 : Nat) (l0_0 : List (S63)) (A0_1 : Option Addr) (c0_1 : Nat) (l0_1 : List (S63)) (A0_2 : Option Addr) (c0_2 : Nat) (l0_2 : List (S73)) (a1 : Int) (a2 : Int) (a3 : Int) (r1 : List (S63)) (r2 : List (S63)) (r3 : List (S73)) (r4 : Bool) (w : World) (hbk0 : w.heap[g0_]? = some (.cells #[.slice A0_0 l0_0.length c0_0, .slice A0_1 l0_1.length c0_1, .slice A0_2 l0_2.length c0_2] 27 (0, 0))) (hr0_0 : Kd.C k63 w A0_0 l0_0.length l0_0) (hc0_0 : l0_0.length ≤ c0_0) (hr0_1 : Kd.C k63 w A0_1 l0_1.length l0_1) (hc0_1 : l0_1.length ≤ c0_1) (hr0_2 : Kd.C k73 w A0_2 l0_2.length l0_2) (hc0_2 : l0_2.length ≤ c0_2) (h : spec_l05Beat.f k l0_0 l0_1 l0_2 a1 a2 a3 = some (r1, r2, r3, r4)) :
    Calls Try.prog 75 #[.pointer (some ⟨g0_, 0, none⟩), .int .i64 a1, .int .i64 a2, .int .i64 a3] w fun e w' => ∃ v0_ v1_ v2_ : Value, e = .returned (.tuple #[.agg #[v0_, v1_, v2_], .bool r4]) ∧ Kd.R k63 63 w' w.heap.size (fun k_ => some k_ ≠ (v1_ : Value).ownBlock) v0_ r1 ∧ Kd.R k63 63 w' w.heap.size (fun k_ => some k_ ≠ (v0_ : Value).ownBlock) v1_ r2 ∧ Kd.R k73 73 w' w.heap.size (fun _ => True) v2_ r3 ∧ Below w.heap.size w w' := by
 have hu27 := Try.underlying27
 have HR0_0 := A_ hr0_0
 have HC0_0 := A_ hc0_0
 clear hr0_0 hc0_0
 have HR0_1 := A_ hr0_1
 have HC0_1 := A_ hc0_1
 clear hr0_1 hc0_1
 have HR0_2 := A_ hr0_2
 have HC0_2 := A_ hc0_2
 clear hr0_2 hc0_2
 have BK0 := A_ hbk0
 clear hbk0
 have HB := A_ (Below.refl w.heap.size w)
 have H : ((spec_l01Member.f a1).bind fun t161 => (if t161 = true then ((spec_l01Tick.f a2).bind fun t162 => (if t162 = true then ((spec_l00In.f a3 1 1000).bind fun t163 => (spec_l05Beat.j0 k a1 a2 a3 (!t163) l0_0 l0_1 l0_2)) else (spec_l05Beat.j0 k a1 a2 a3 true l0_0 l0_1 l0_2))) else (spec_l05Beat.j0 k a1 a2 a3 true l0_0 l0_1 l0_2))) = some (r1, r2, r3, r4) := h
 clear h
 have HC5 := A_ H
 clear H
 go_enter Try.func75, Try.ntmps75
 go_upto_region 1 with (first | ((with_reducible refine gate_dst (N := 8) rfl ?_); refine box_event ?hg (N := 8) ?hd (cs := #[.slice none 0 0, .slice none 0 0, .slice none 0 0]) (t := 27) ?hr ?_; (case hd => rfl); (case hg => rfl); (case hr => first | (go_simp; done) | (go_simp; rfl)); intro gb160 hg w6 hbox hb; have GW160 := b6_ hg HB; have GE160 := b6_ hg HB; have NB0_160 := b4_ hg BK0; have NB160_0 := b5_ hg BK0; replace BK0 := b3_ BK0 hb; replace HB := A_ (below_step (y1_ HB.out) hb); have BK160 := A_ (hbox); clear hb hbox hg))
 (try simp only [Act.put, List.setIfInBounds_toArray, List.set_cons_zero, List.set_cons_succ])
 go_cut [23] (fun v23 wc => ∃ (kq : Nat) (x23_4 : Bool), v23 = .bool x23_4 ∧ Aside0 (spec_l05Beat.j0 kq a1 a2 a3 x23_4 l0_0 l0_1 l0_2 = some (r1, r2, r3, r4)) ∧ Aside0 (kq ≤ k) ∧ Aside0 (wc.heap[g0_]? = some (.cells #[(.slice A0_0 l0_0.length c0_0), (.slice A0_1 l0_1.length c0_1), (.slice A0_2 l0_2.length c0_2)] 27 (0, 0))) ∧ Aside0 (wc.heap[gb160]? = some (.cells #[(.slice none 0 0), (.slice none 0 0), (.slice none 0 0)] 27 (0, 0))) ∧ Aside0 (Below w.heap.size w wc))
 case first =>
  skip
  {
 have H := HC5.out
 clear HC5
 replace H := Option.bind_eq_some_iff.mp H
 obtain ⟨t161, A70, H⟩ := H
 replace H : (if t161 = true then ((spec_l01Tick.f a2).bind fun t162 => (if t162 = true then ((spec_l00In.f a3 1 1000).bind fun t163 => (spec_l05Beat.j0 k a1 a2 a3 (!t163) l0_0 l0_1 l0_2)) else (spec_l05Beat.j0 k a1 a2 a3 true l0_0 l0_1 l0_2))) else (spec_l05Beat.j0 k a1 a2 a3 true l0_0 l0_1 l0_2)) = some (r1, r2, r3, r4) := H
 have A7 := A_ A70
 clear A70
 by_cases c8 : t161 = true
 {
 subst c8
 have H1 : ((spec_l01Tick.f a2).bind fun t162 => (if t162 = true then ((spec_l00In.f a3 1 1000).bind fun t163 => (spec_l05Beat.j0 k a1 a2 a3 (!t163) l0_0 l0_1 l0_2)) else (spec_l05Beat.j0 k a1 a2 a3 true l0_0 l0_1 l0_2))) = some (r1, r2, r3, r4) := by rw [if_pos rfl] at H; exact H
 clear H
 have H := H1
 clear H1
 replace H := Option.bind_eq_some_iff.mp H
 obtain ⟨t162, A90, H⟩ := H
 replace H : (if t162 = true then ((spec_l00In.f a3 1 1000).bind fun t163 => (spec_l05Beat.j0 k a1 a2 a3 (!t163) l0_0 l0_1 l0_2)) else (spec_l05Beat.j0 k a1 a2 a3 true l0_0 l0_1 l0_2)) = some (r1, r2, r3, r4) := H
 have A9 := A_ A90
 clear A90
 by_cases c10 : t162 = true
 {
 subst c10
 have H1 : ((spec_l00In.f a3 1 1000).bind fun t163 => (spec_l05Beat.j0 k a1 a2 a3 (!t163) l0_0 l0_1 l0_2)) = some (r1, r2, r3, r4) := by rw [if_pos rfl] at H; exact H
 clear H
 have H := H1
 clear H1
 replace H := Option.bind_eq_some_iff.mp H
 obtain ⟨t163, A110, H⟩ := H
 replace H : (spec_l05Beat.j0 k a1 a2 a3 (!t163) l0_0 l0_1 l0_2) = some (r1, r2, r3, r4) := H
 have A11 := A_ A110
 clear A110
 have H' := A_ H
 clear H
 go_wp2_with (first | ((with_reducible refine gate_callee (f := 98) rfl ?_); refine goesL_ (some 12) rfl rfl Try.func98 s2_ rfl #[.int .i64 a1] rfl s3_ ?_; (with_reducible refine (spec_l01Member.calls a1 true _ A7.out).mono ?_); rintro e w' ⟨rfl, ⟨nd, rfl⟩⟩; refine ⟨_, rfl, ?_⟩) | (go_at_call 58; (with_reducible refine (spec_l01Tick.calls a2 true _ A9.out).mono ?_); rintro e w' ⟨rfl, ⟨nd, rfl⟩⟩) | (go_at_call 99; (with_reducible refine (spec_l00In.calls a3 1 1000 t163 _ A11.out).mono ?_); rintro e w' ⟨rfl, ⟨nd, rfl⟩⟩))
 go_meet
 case rel => exact ⟨_, (!t163), s1_, H', ⟨by first | omega | exact Nat.le_refl _⟩, ⟨b1_ BK0.out⟩, ⟨b1_ BK160.out⟩, ⟨y1_ HB.out⟩⟩}
 {
 replace c10 := Bool.eq_false_iff.mpr c10
 subst c10
 have H1 : (spec_l05Beat.j0 k a1 a2 a3 true l0_0 l0_1 l0_2) = some (r1, r2, r3, r4) := by rw [if_neg (show ¬ (false = true) by decide)] at H; exact H
 clear H
 have H := H1
 clear H1
 have H' := A_ H
 clear H
 go_wp2_with (first | ((with_reducible refine gate_callee (f := 98) rfl ?_); refine goesL_ (some 12) rfl rfl Try.func98 s2_ rfl #[.int .i64 a1] rfl s3_ ?_; (with_reducible refine (spec_l01Member.calls a1 true _ A7.out).mono ?_); rintro e w' ⟨rfl, ⟨nd, rfl⟩⟩; refine ⟨_, rfl, ?_⟩) | (go_at_call 58; (with_reducible refine (spec_l01Tick.calls a2 false _ A9.out).mono ?_); rintro e w' ⟨rfl, ⟨nd, rfl⟩⟩))
 go_meet
 case rel => exact ⟨_, (true), s1_, H', ⟨by first | omega | exact Nat.le_refl _⟩, ⟨b1_ BK0.out⟩, ⟨b1_ BK160.out⟩, ⟨y1_ HB.out⟩⟩}}
 {
 replace c8 := Bool.eq_false_iff.mpr c8
 subst c8
 have H1 : (spec_l05Beat.j0 k a1 a2 a3 true l0_0 l0_1 l0_2) = some (r1, r2, r3, r4) := by rw [if_neg (show ¬ (false = true) by decide)] at H; exact H
 clear H
 have H := H1
 clear H1
 have H' := A_ H
 clear H
 go_wp2_with (first | ((with_reducible refine gate_callee (f := 98) rfl ?_); refine goesL_ (some 12) rfl rfl Try.func98 s2_ rfl #[.int .i64 a1] rfl s3_ ?_; (with_reducible refine (spec_l01Member.calls a1 false _ A7.out).mono ?_); rintro e w' ⟨rfl, ⟨nd, rfl⟩⟩; refine ⟨_, rfl, ?_⟩))
 go_meet
 case rel => exact ⟨_, (true), s1_, H', ⟨by first | omega | exact Nat.le_refl _⟩, ⟨b1_ BK0.out⟩, ⟨b1_ BK160.out⟩, ⟨y1_ HB.out⟩⟩}}
 case rest =>
  skip
  {
 clear HC5
 try clear c1
 try clear p2
 try clear c7
 try clear c8
 try clear c9
 try clear c10
 obtain ⟨kq, x23_4, rfl, HA, HJ4, BK0, BK160, HB⟩ := hcut
 cases kq with
 | zero => exact absurd HA.out (by simp [spec_l05Beat.j0])
 | succ kj4 =>
  skip
  {
 have H := HA.out
 clear HA
 simp only [spec_l05Beat.j0] at H
 by_cases c12 : x23_4 = true
 {
 subst c12
 have H1 : (some (([] : List (S63)), ([] : List (S63)), ([] : List (S73)), false)) = some (r1, r2, r3, r4) := by rw [if_pos rfl] at H; exact H
 clear H
 have H := H1
 clear H1
 simp only [Option.some.injEq, Prod.mk.injEq] at H
 obtain ⟨rfl, rfl, rfl, rfl⟩ := H
 have hnb13 := NB160_0.out
 have hnc13 := NB0_160.out
 have hcz14_0 := c1_ BK160 0 (.slice none 0 0)
 have hcz14_1 := c1_ BK160 1 (.slice none 0 0)
 have hcz14_2 := c1_ BK160 2 (.slice none 0 0)
 have hfz14_0 := f1_ BK160 0
 have hfz14_1 := f1_ BK160 1
 have hfz14_2 := f1_ BK160 2
 go_wp2
 refine bodyPost_ret (results_ct rfl _ _ gb160 27 #[.slice none 0 0, .slice none 0 0, .slice none 0 0] (0, 0) _ rfl (by refine b1_ ?_; refine blk_put3 (cs := #[.slice none 0 0, .slice none 0 0, .slice none 0 0]) ?_ rfl; refine b1_ ?_; exact BK160.out) Try.underlying27 rfl s2_) rfl ?_
 exact ⟨_, _, _, e1_, by first | exact Kd.R_nil _ _ _ _ _ | exact Kd.N_nil _ _ _ _ _ | exact Kd.V_nil _ _ _ _ _ | exact Kd.Q_nil _ _ _ _ _ | exact Kd.S_nil _ _ _ _ _, by first | exact Kd.R_nil _ _ _ _ _ | exact Kd.N_nil _ _ _ _ _ | exact Kd.V_nil _ _ _ _ _ | exact Kd.Q_nil _ _ _ _ _ | exact Kd.S_nil _ _ _ _ _, by first | exact Kd.R_nil _ _ _ _ _ | exact Kd.N_nil _ _ _ _ _ | exact Kd.V_nil _ _ _ _ _ | exact Kd.Q_nil _ _ _ _ _ | exact Kd.S_nil _ _ _ _ _, by repeat (first | (with_reducible first | exact HB.out | apply below_alloc | apply pw_below_drewN | apply below_drew1 | refine below_set ?_ GE160.out) | exact HB.out)⟩}
 {
 replace c12 := Bool.eq_false_iff.mpr c12
 subst c12
 have H1 : ((spec_l05Own.f l0_0 l0_1 l0_2).bind fun bt164 => ((spec_l05Put.f kj4 l0_0 a1 (wrap64 (a2 + a3))).bind fun t174 => ((spec_l05Give.f kj4 t174 bt164.2.1 bt164.2.2).bind fun bt177 => (some (bt177.1, bt177.2.1, bt177.2.2.1, bt177.2.2.2))))) = some (r1, r2, r3, r4) := by rw [if_neg (show ¬ (false = true) by decide)] at H; exact H
 clear H
 have H := H1
 clear H1
 replace H := Option.bind_eq_some_iff.mp H
 obtain ⟨⟨t164, t167, t170⟩, A150, H⟩ := H
 replace H : ((spec_l05Put.f kj4 l0_0 a1 (wrap64 (a2 + a3))).bind fun t174 => ((spec_l05Give.f kj4 t174 t167 t170).bind fun bt177 => (some (bt177.1, bt177.2.1, bt177.2.2.1, bt177.2.2.2)))) = some (r1, r2, r3, r4) := H
 have A15 := A_ A150
 clear A150
 replace H := Option.bind_eq_some_iff.mp H
 obtain ⟨t174, A160, H⟩ := H
 replace H : ((spec_l05Give.f kj4 t174 t167 t170).bind fun bt177 => (some (bt177.1, bt177.2.1, bt177.2.2.1, bt177.2.2.2))) = some (r1, r2, r3, r4) := H
 have A16 := A_ A160
 clear A160
 replace H := Option.bind_eq_some_iff.mp H
 obtain ⟨⟨t177, t180, t183, t186⟩, A170, H⟩ := H
 replace H : (some (t177, t180, t183, t186)) = some (r1, r2, r3, r4) := H
 have A17 := A_ A170
 clear A170
 simp only [Option.some.injEq, Prod.mk.injEq] at H
 obtain ⟨rfl, rfl, rfl, rfl⟩ := H
 go_wp2_with (first | ((with_reducible refine gate_callee (f := 62) rfl ?_); refine goesL_ (some 26) rfl rfl Try.func62 s2_ rfl #[.pointer (some ⟨g0_, 0, none⟩)] rfl s3_ ?_; (with_reducible refine (spec_l05Own.calls g0_ A0_0 c0_0 l0_0 A0_1 c0_1 l0_1 A0_2 c0_2 l0_2 t164 t167 t170 _ ?side1 ?side2 ?side3 ?side4 ?side5 ?side6 ?side7 A15.out).mono ?_); (case side1 => exact (b1_ BK0.out)); (case side2 => exact y2_ (Kd.C_below HR0_0.out HB.out)); (case side3 => exact HC0_0.out); (case side4 => exact y2_ (Kd.C_below HR0_1.out HB.out)); (case side5 => exact HC0_1.out); (case side6 => exact y2_ (Kd.C_below HR0_2.out HB.out)); (case side7 => exact HC0_2.out); rintro e w18 ⟨v165, v168, v171, rfl, ho0, ho1, ho2, hb⟩; refine ⟨_, rfl, ?_⟩; have HO166 := A_ (Kd.R_lower ho0 (below_size (y1_ HB.out))); have HO169 := A_ (Kd.R_lower ho1 (below_size (y1_ HB.out))); have HO172 := A_ (Kd.R_lower ho2 (below_size (y1_ HB.out))); replace BK0 := b3_ BK0 hb; replace BK160 := b3_ BK160 hb; replace HB := A_ (below_step (y1_ HB.out) hb); (try clear hb); (try clear hb2); (try clear hk); (try clear hi); (try clear ho0); (try clear ho1); (try clear ho2)) | ((with_reducible refine gate_dst (N := 10) rfl ?_); refine box_event ?hg (N := 10) ?hd (cs := #[.slice none 0 0, .slice none 0 0, .slice none 0 0]) (t := 27) ?hr ?_; (case hd => rfl); (case hg => rfl); (case hr => first | (go_simp; done) | (go_simp; rfl)); intro gb173 hg w19 hbox hb; have GW173 := b6_ hg HB; have GE173 := b6_ hg HB; have NB0_173 := b4_ hg BK0; have NB173_0 := b5_ hg BK0; have NB160_173 := b4_ hg BK160; have NB173_160 := b5_ hg BK160; replace HO166 := r1_ HO166 hb; replace HO169 := r1_ HO169 hb; replace HO172 := r1_ HO172 hb; replace BK0 := b3_ BK0 hb; replace BK160 := b3_ BK160 hb; replace HB := A_ (below_step (y1_ HB.out) hb); have BK173 := A_ (hbox); clear hb hbox hg; obtain ⟨Ao20, co20, eo20⟩ := Kd.R_slice HO166.out; subst eo20; have hnb21 := NB173_0.out; have hnc21 := NB0_173.out; have hnb22 := NB173_160.out; have hnc22 := NB160_173.out; have hcz23_0 := c1_ BK173 0 (.slice none 0 0); have hcz23_1 := c1_ BK173 1 (.slice none 0 0); have hcz23_2 := c1_ BK173 2 (.slice none 0 0); have hfz23_0 := f1_ BK173 0; have hfz23_1 := f1_ BK173 1; have hfz23_2 := f1_ BK173 2; obtain ⟨Ao24, co24, eo24⟩ := Kd.R_slice HO169.out; subst eo24; obtain ⟨Ao25, co25, eo25⟩ := Kd.R_slice HO172.out; subst eo25; have hnb26 := NB0_160.out; have hnc26 := NB160_0.out; have hcz27_0 := c1_ BK0 0 (.slice A0_0 l0_0.length c0_0); have hcz27_1 := c1_ BK0 1 (.slice A0_1 l0_1.length c0_1); have hcz27_2 := c1_ BK0 2 (.slice A0_2 l0_2.length c0_2); have hfz27_0 := f1_ BK0 0; have hfz27_1 := f1_ BK0 1; have hfz27_2 := f1_ BK0 2) | ((with_reducible refine gate_callee (f := 80) rfl ?_); refine goesL_ (some 35) rfl rfl Try.func80 s2_ rfl #[.slice A0_0 l0_0.length c0_0, .int .i64 a1, .int .i64 (wrap64 (a2 + a3))] rfl s3_ ?_; (with_reducible refine (spec_l05Put.calls kj4 _ _ l0_0 a1 (wrap64 (a2 + a3)) t174 _ ?side1 ?side2 A16.out).mono ?_); (case side1 => exact Kd.C_below HR0_0.out (by repeat (first | (with_reducible first | exact HB.out | apply below_alloc | apply pw_below_drewN | apply below_drew1 | refine below_set ?_ GE173.out) | exact HB.out))); (case side2 => exact HC0_0.out); rintro e w28 ⟨v175, rfl, ho0, hb⟩; refine ⟨_, rfl, ?_⟩; have n0_ := A_ (Kd.R_elder' (by refine b2_ ?_; exact (Kd.R_mono (Kd.R_far3 (g := gb173) (Kd.R_types HO166.out BK173.out (by decide)) (fun _ hk => hk.2)) (fun _ h_ => h_.1))) (Kd.R_base ho0) hb); have n1_ := A_ (Kd.R_elder' (by refine b2_ ?_; exact (Kd.R_mono (Kd.R_far3 (g := gb173) (Kd.R_types HO169.out BK173.out (by decide)) (fun _ hk => hk.2)) (fun _ h_ => h_.1))) (Kd.R_base ho0) hb); have n2_ := A_ (Kd.R_below (by refine b2_ ?_; exact (Kd.R_mono (Kd.R_far3 (g := gb173) (Kd.R_types HO172.out BK173.out (by decide)) (fun _ hk => hk.2)) (fun _ h_ => h_.1))) hb); have n3_ := A_ (Kd.R_lower (Kd.R_new' (Kd.R_new' ho0 (Kd.R_lt (by refine b2_ ?_; exact (Kd.R_mono (Kd.R_far3 (g := gb173) (Kd.R_types HO166.out BK173.out (by decide)) (fun _ hk => hk.2)) (fun _ h_ => h_.1))))) (Kd.R_lt (by refine b2_ ?_; exact (Kd.R_mono (Kd.R_far3 (g := gb173) (Kd.R_types HO169.out BK173.out (by decide)) (fun _ hk => hk.2)) (fun _ h_ => h_.1))))) (below_size (by repeat (first | (with_reducible first | exact HB.out | apply below_alloc | apply pw_below_drewN | apply below_drew1 | refine below_set ?_ GE173.out) | exact HB.out)))); have n4_ := A_ (blk_below (g := g0_) (o := .cells #[.slice A0_0 l0_0.length c0_0, .slice A0_1 l0_1.length c0_1, .slice A0_2 l0_2.length c0_2] 27 (0, 0)) (by refine b1_ ?_; refine blk_far3 ?_ NB0_173.out; refine b1_ ?_; exact BK0.out) hb); have n5_ := A_ (blk_below (g := gb160) (o := .cells #[.slice none 0 0, .slice none 0 0, .slice none 0 0] 27 (0, 0)) (by refine b1_ ?_; refine blk_far3 ?_ NB160_173.out; refine b1_ ?_; exact BK160.out) hb); have n6_ := A_ (blk_below (g := gb173) (o := .cells #[.slice Ao20 t164.length co20, .slice Ao24 t167.length co24, .slice Ao25 t170.length co25] 27 (0, 0)) (by refine b1_ ?_; refine blk_put3 (cs := #[.slice none 0 0, .slice none 0 0, .slice none 0 0]) ?_ rfl; refine b1_ ?_; exact BK173.out) hb); have n7_ := A_ (below_step (by repeat (first | (with_reducible first | exact HB.out | apply below_alloc | apply pw_below_drewN | apply below_drew1 | refine below_set ?_ GE173.out) | exact HB.out)) hb); clear HO166; clear HO169; clear HO172; clear BK0; clear BK160; clear BK173; clear HB; have HO166 := n0_; have HO169 := n1_; have HO172 := n2_; have HO176 := n3_; have BK0 := n4_; have BK160 := n5_; have BK173 := n6_; have HB := n7_; clear n0_ n1_ n2_ n3_ n4_ n5_ n6_ n7_; (try clear hb); (try clear hb2); (try clear hk); (try clear hi); (try clear ho0); obtain ⟨Ao29, co29, eo29⟩ := Kd.R_slice HO176.out; subst eo29; have hcz30_0 := c1_ BK173 0 (.slice Ao20 t164.length co20); have hcz30_1 := c1_ BK173 1 (.slice Ao24 t167.length co24); have hcz30_2 := c1_ BK173 2 (.slice Ao25 t170.length co25); have hfz30_0 := f1_ BK173 0; have hfz30_1 := f1_ BK173 1; have hfz30_2 := f1_ BK173 2) | ((with_reducible refine gate_store (t := 24) (p := 36) rfl ?_); refine store_event (t := 24) (p := 36) (v := ?vo_w31) (w1 := (w28.setCell ⟨gb173, 0, none⟩ (.slice Ao29 t174.length co29))) ?hg ?ho ?hn ?hr ?_; (case ho => rfl); (case hg => rfl); (case hn => rfl); (case hr => first | (go_simp; done) | (go_simp; rfl)); intro w31 hw; have n0_ : Aside0 (Kd.R k63 63 w31 w.heap.size (fun k_ => some k_ ≠ (.slice Ao24 t167.length co24 : Value).ownBlock ∧ some k_ ≠ (.slice Ao29 t174.length co29 : Value).ownBlock) (.slice Ao20 t164.length co20) t164) := ⟨(by rw [hw]; exact (by refine b2_ ?_; exact Kd.R_mono (Kd.R_far (p := ⟨gb173, 0, none⟩) (Kd.R_types HO166.out BK173.out (by decide)) (fun _ hk => hk.2) (.slice Ao29 t174.length co29)) (fun _ hk => ⟨hk.1.1, hk.1.2⟩)))⟩; have n1_ : Aside0 (Kd.R k63 63 w31 w.heap.size (fun k_ => some k_ ≠ (.slice Ao20 t164.length co20 : Value).ownBlock ∧ some k_ ≠ (.slice Ao29 t174.length co29 : Value).ownBlock) (.slice Ao24 t167.length co24) t167) := ⟨(by rw [hw]; exact (by refine b2_ ?_; exact Kd.R_mono (Kd.R_far (p := ⟨gb173, 0, none⟩) (Kd.R_types HO169.out BK173.out (by decide)) (fun _ hk => hk.2) (.slice Ao29 t174.length co29)) (fun _ hk => ⟨hk.1.1, hk.1.2⟩)))⟩; have n2_ : Aside0 (Kd.R k73 73 w31 w.heap.size (fun _ => True) (.slice Ao25 t170.length co25) t170) := ⟨(by rw [hw]; exact (by refine b2_ ?_; exact Kd.R_mono (Kd.R_far (p := ⟨gb173, 0, none⟩) (Kd.R_types HO172.out BK173.out (by decide)) (fun _ hk => hk.2) (.slice Ao29 t174.length co29)) (fun _ hk => trivial)))⟩; have n3_ : Aside0 (Kd.R k63 63 w31 w.heap.size (fun k_ => some k_ ≠ (.slice Ao20 t164.length co20 : Value).ownBlock ∧ some k_ ≠ (.slice Ao24 t167.length co24 : Value).ownBlock) (.slice Ao29 t174.length co29) t174) := ⟨(by rw [hw]; exact (by refine b2_ ?_; exact Kd.R_mono (Kd.R_far (p := ⟨gb173, 0, none⟩) (Kd.R_types HO176.out BK173.out (by decide)) (fun _ hk => hk.2) (.slice Ao29 t174.length co29)) (fun _ hk => ⟨hk.1.1.2, hk.1.2⟩)))⟩; have n4_ : Aside0 (w31.heap[g0_]? = some (.cells #[.slice A0_0 l0_0.length c0_0, .slice A0_1 l0_1.length c0_1, .slice A0_2 l0_2.length c0_2] 27 (0, 0))) := ⟨(by rw [hw]; exact (by refine b1_ ?_; refine blk_far ?_ NB0_173.out _; refine b1_ ?_; exact BK0.out))⟩; have n5_ : Aside0 (w31.heap[gb160]? = some (.cells #[.slice none 0 0, .slice none 0 0, .slice none 0 0] 27 (0, 0))) := ⟨(by rw [hw]; exact (by refine b1_ ?_; refine blk_far ?_ NB160_173.out _; refine b1_ ?_; exact BK160.out))⟩; have n6_ : Aside0 (w31.heap[gb173]? = some (.cells #[.slice Ao29 t174.length co29, .slice Ao24 t167.length co24, .slice Ao25 t170.length co25] 27 (0, 0))) := ⟨(by rw [hw]; exact (by refine b1_ ?_; refine blk_put (cs := #[.slice Ao20 t164.length co20, .slice Ao24 t167.length co24, .slice Ao25 t170.length co25]) ?_ 0 _ rfl; refine b1_ ?_; exact BK173.out))⟩; have n7_ : Aside0 (Below w.heap.size w w31) := ⟨(by rw [hw]; exact (by repeat (first | (with_reducible first | exact HB.out | apply below_alloc | apply pw_below_drewN | apply below_drew1 | refine below_set ?_ GE173.out) | exact HB.out)))⟩; clear hw; clear HO166; clear HO169; clear HO172; clear HO176; clear BK0; clear BK160; clear BK173; clear HB; have HO166 := n0_; have HO169 := n1_; have HO172 := n2_; have HO176 := n3_; have BK0 := n4_; have BK160 := n5_; have BK173 := n6_; have HB := n7_; clear n0_ n1_ n2_ n3_ n4_ n5_ n6_ n7_; have hcz32_0 := c1_ BK173 0 (.slice Ao29 t174.length co29); have hcz32_1 := c1_ BK173 1 (.slice Ao24 t167.length co24); have hcz32_2 := c1_ BK173 2 (.slice Ao25 t170.length co25); have hfz32_0 := f1_ BK173 0; have hfz32_1 := f1_ BK173 1; have hfz32_2 := f1_ BK173 2) | ((with_reducible refine gate_callee (f := 82) rfl ?_); refine goesL_ (some 38) rfl rfl Try.func82 s2_ rfl #[.agg #[.slice Ao29 t174.length co29, .slice Ao24 t167.length co24, .slice Ao25 t170.length co25]] rfl s3_ ?_; (with_reducible refine (spec_l05Give.calls kj4 (fun k_ => some k_ = (.slice Ao29 t174.length co29 : Value).ownBlock) (.slice Ao29 t174.length co29) t174 (fun k_ => some k_ = (.slice Ao24 t167.length co24 : Value).ownBlock) (.slice Ao24 t167.length co24) t167 (fun k_ => some k_ = (.slice Ao25 t170.length co25 : Value).ownBlock) (.slice Ao25 t170.length co25) t170 t177 t180 t183 t186 w _ ?side1 ?side2 ?side3 ?side4 ?side5 ?side6 A17.out).mono ?_); (case side1 => exact y1_ HB.out); (case side2 => exact Kd.R_tight rfl HO176.out); (case side3 => exact fun k_ e_ => (HO176.out.1 k_ e_.symm).2); (case side4 => exact Kd.R_tight rfl HO169.out); (case side5 => exact fun k_ e_ => (HO169.out.1 k_ e_.symm).2); (case side6 => exact Kd.R_tight rfl HO172.out); rintro e w33 ⟨v178, v181, v184, rfl, ho0, ho1, ho2, hb, hkp⟩; refine ⟨_, rfl, ?_⟩; have n0_ := A_ (blk_kept (b1_ BK0.out) hkp (fun hs_ => Or.elim hs_ (fun e_ => (fun e_ => (Kd.R_ne HO176.out BK0.out (by decide)) e_) e_) (fun e_ => Or.elim e_ (fun e_ => (fun e_ => (Kd.R_ne HO169.out BK0.out (by decide)) e_) e_) (fun e_ => (fun e_ => (Kd.R_ne HO172.out BK0.out (by decide)) e_) e_)))); have n1_ := A_ (blk_kept (b1_ BK160.out) hkp (fun hs_ => Or.elim hs_ (fun e_ => (fun e_ => (Kd.R_ne HO176.out BK160.out (by decide)) e_) e_) (fun e_ => Or.elim e_ (fun e_ => (fun e_ => (Kd.R_ne HO169.out BK160.out (by decide)) e_) e_) (fun e_ => (fun e_ => (Kd.R_ne HO172.out BK160.out (by decide)) e_) e_)))); have n2_ := A_ (Kd.R_mono (ok' := fun k_ => some k_ ≠ (v178 : Value).ownBlock ∧ some k_ ≠ (v181 : Value).ownBlock) (Kd.R_keptB ((Kd.R_apart' HO166.out (Kd.R_typed HO172.out) (by decide))) hkp (fun k_ hk_ hs_ => Or.elim hs_ (fun e_ => (hk_.1.2) e_) (fun e_ => Or.elim e_ (fun e_ => (hk_.1.1) e_) (fun e_ => (hk_.2) e_)))) (fun k_ hk_ => ⟨fun e_ => Or.elim (ho0.1 k_ e_.symm).1 (fun hs_ => hk_.2.1 hs_) (fun hn_ => Nat.not_le.2 hk_.2.2 hn_), fun e_ => Or.elim (ho1.1 k_ e_.symm).1 (fun hs_ => hk_.2.1 hs_) (fun hn_ => Nat.not_le.2 hk_.2.2 hn_)⟩)); have n3_ := A_ (blk_kept (b1_ BK173.out) hkp (fun hs_ => Or.elim hs_ (fun e_ => (fun e_ => (Kd.R_ne HO176.out BK173.out (by decide)) e_) e_) (fun e_ => Or.elim e_ (fun e_ => (fun e_ => (Kd.R_ne HO169.out BK173.out (by decide)) e_) e_) (fun e_ => (fun e_ => (Kd.R_ne HO172.out BK173.out (by decide)) e_) e_)))); have n4_ := A_ (Kd.R_mono (ok' := fun k_ => some k_ ≠ (v181 : Value).ownBlock ∧ some k_ ≠ (.slice Ao20 t164.length co20 : Value).ownBlock) ho0 (fun k_ hk_ => ⟨hk_.2, Or.elim hk_.1 (fun hs_ => Or.elim hs_ (fun hs_ => fun e_ => ((((Kd.R_apart' HO166.out (Kd.R_typed HO172.out) (by decide))).1 k_ e_.symm).1.2) hs_) (fun hs_ => Or.elim hs_ (fun hs_ => fun e_ => ((((Kd.R_apart' HO166.out (Kd.R_typed HO172.out) (by decide))).1 k_ e_.symm).1.1) hs_) (fun hs_ => fun e_ => ((((Kd.R_apart' HO166.out (Kd.R_typed HO172.out) (by decide))).1 k_ e_.symm).2) hs_))) (fun hn_ => (Kd.fresh' (Kd.R_lt (b2_ HO166.out)) k_ hn_))⟩)); have n5_ := A_ (Kd.R_mono (ok' := fun k_ => some k_ ≠ (v178 : Value).ownBlock ∧ some k_ ≠ (.slice Ao20 t164.length co20 : Value).ownBlock) ho1 (fun k_ hk_ => ⟨hk_.2, Or.elim hk_.1 (fun hs_ => Or.elim hs_ (fun hs_ => fun e_ => ((((Kd.R_apart' HO166.out (Kd.R_typed HO172.out) (by decide))).1 k_ e_.symm).1.2) hs_) (fun hs_ => Or.elim hs_ (fun hs_ => fun e_ => ((((Kd.R_apart' HO166.out (Kd.R_typed HO172.out) (by decide))).1 k_ e_.symm).1.1) hs_) (fun hs_ => fun e_ => ((((Kd.R_apart' HO166.out (Kd.R_typed HO172.out) (by decide))).1 k_ e_.symm).2) hs_))) (fun hn_ => (Kd.fresh' (Kd.R_lt (b2_ HO166.out)) k_ hn_))⟩)); have n6_ := A_ (Kd.R_mono (ok' := fun k_ => True) ho2 (fun k_ hk_ => trivial)); have n7_ := A_ (hb); clear BK0; clear BK160; clear HO166; clear BK173; clear HB; clear HO169; clear HO172; clear HO176; have BK0 := n0_; have BK160 := n1_; have HO166 := n2_; have BK173 := n3_; have HO179 := n4_; have HO182 := n5_; have HO185 := n6_; have HB := n7_; clear n0_ n1_ n2_ n3_ n4_ n5_ n6_ n7_; (try clear hb); (try clear hkp); (try clear ho0); (try clear ho1); (try clear ho2); obtain ⟨Ao34, co34, eo34⟩ := Kd.R_slice HO179.out; subst eo34; have hcz35_0 := c1_ BK160 0 (.slice none 0 0); have hcz35_1 := c1_ BK160 1 (.slice none 0 0); have hcz35_2 := c1_ BK160 2 (.slice none 0 0); have hfz35_0 := f1_ BK160 0; have hfz35_1 := f1_ BK160 1; have hfz35_2 := f1_ BK160 2; obtain ⟨Ao36, co36, eo36⟩ := Kd.R_slice HO182.out; subst eo36; obtain ⟨Ao37, co37, eo37⟩ := Kd.R_slice HO185.out; subst eo37))
 refine bodyPost_ret (results_ct rfl _ _ gb160 27 #[.slice Ao34 t177.length co34, .slice Ao36 t180.length co36, .slice Ao37 t183.length co37] (0, 0) _ rfl (by refine b1_ ?_; refine blk_put3 (cs := #[.slice none 0 0, .slice none 0 0, .slice none 0 0]) ?_ rfl; refine b1_ ?_; exact BK160.out) Try.underlying27 rfl s2_) rfl ?_
 exact ⟨_, _, _, e1_, by refine b2_ ?_; exact Kd.R_mono (Kd.R_far3 (g := gb160) (Kd.R_types HO179.out BK160.out (by decide)) (fun _ hk => hk.2)) (fun _ hk => hk.1.1), by refine b2_ ?_; exact Kd.R_mono (Kd.R_far3 (g := gb160) (Kd.R_types HO182.out BK160.out (by decide)) (fun _ hk => hk.2)) (fun _ hk => hk.1.1), by refine b2_ ?_; exact Kd.R_mono (Kd.R_far3 (g := gb160) (Kd.R_types HO185.out BK160.out (by decide)) (fun _ hk => hk.2)) (fun _ hk => trivial), by repeat (first | (with_reducible first | exact HB.out | apply below_alloc | apply pw_below_drewN | apply below_drew1 | refine below_set ?_ GE160.out) | exact HB.out)⟩}}}

end Go.Proofs.Ytgfilednbllkmaa.QFnJoinedPresence
