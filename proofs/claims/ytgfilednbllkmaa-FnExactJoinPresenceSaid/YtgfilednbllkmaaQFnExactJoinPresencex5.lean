-- written by a program of this session, on the lines of the kit's print
import Derived.Test.YtgfilednbllkmaaQFnExactJoinPresencex0
import Derived.Test.YtgfilednbllkmaaQFnExactJoinPresencex3
import Derived.Test.YtgfilednbllkmaaQFnExactJoinPresencex4
namespace Go.Proofs.Ytgfilednbllkmaa.QFnExactJoinPresence
open Go.RowKit Go.Proofs.YtgfilednbllkmaaW.PrintWords Go.Proofs.YtgfilednbllkmaaW.PrintLast Go.Proofs.YtgfilednbllkmaaW.PrintMore
attribute [local go_sem] max2_int min2_int max_two min_two max_three min_three max_four min_four   -- for this text's walks alone
set_option linter.unusedVariables false
set_option linter.unusedSimpArgs false

/-! ### spec_l05Is: function 57 -/
abbrev spec_l05Is.T : Bool := true
abbrev spec_l05Is.F : Bool := false
def spec_l05Is.l0 : Nat → Int → Int → List (S63) → List (S63) → List (S73) → Option (Bool)
  | 0, _, _, _, _, _ => none
  | k + 1, x9, x10, x1000, x1001, x1002 => if x10 < x9 then (if 0 ≤ x10 then (if x10 < (x1002.length : Int) then ((spec_l01Member.f ((rd_T73 x1002 x10).f0)).bind fun t183 => (if t183 = true then ((spec_l00In.f ((rd_T73 x1002 x10).f1) 0 1000000000).bind fun t184 => (if t184 = true then (if x10 > 0 then (if 0 ≤ (wrap64 (x10 - 1)) then (if (wrap64 (x10 - 1)) < (x1002.length : Int) then (if ((rd_T73 x1002 (wrap64 (x10 - 1))).f0) ≥ ((rd_T73 x1002 x10).f0) then (some false) else (spec_l05Is.l0 k x9 (wrap64 (x10 + 1)) x1000 x1001 x1002)) else (none)) else (none)) else (spec_l05Is.l0 k x9 (wrap64 (x10 + 1)) x1000 x1001 x1002)) else (some false))) else (some false))) else (none)) else (none)) else (if (x1002.length : Int) ≤ 30 then ((spec_l05Leases.f k x1000).bind fun t179 => (if t179 = true then ((spec_l05Leases.f k x1001).bind fun t180 => (some t180)) else (some false))) else (some false))
def spec_l05Is.f (k : Nat) (l0_0 : List (S63)) (l0_1 : List (S63)) (l0_2 : List (S73)) : Option (Bool) := spec_l05Is.l0 k (l0_2.length : Int) 0 l0_0 l0_1 l0_2
theorem spec_l05Is.mono_l : ∀ k, (∀ y0 y1 y2 y3 y4, LeO (spec_l05Is.l0 k y0 y1 y2 y3 y4) (spec_l05Is.l0 (k + 1) y0 y1 y2 y3 y4))
  | 0 => fun _ _ _ _ _ r h => by simp [spec_l05Is.l0] at h
  | k + 1 => by
    have ih0 := spec_l05Is.mono_l k
    · intro y0 y1 y2 y3 y4
      unfold spec_l05Is.l0
      repeat' first
      | (with_reducible exact ih0 _ _ _ _ _)
      | (with_reducible exact spec_l05Leases.mono _ _)
      | (with_reducible exact LeO.refl _)
      | (with_reducible exact LeO.none _)
      | (with_reducible refine LeO.ite ?_ ?_)
      | (with_reducible refine LeO.bind ?_ (fun _ => ?_))
      | exact ih0 _ _ _ _ _
      | exact spec_l05Leases.mono _ _
      | exact LeO.none _
      | refine LeO.ite ?_ ?_
      | refine LeO.bind ?_ (fun _ => ?_)
theorem spec_l05Is.mono : ∀ a0 a1 a2 k, LeO (spec_l05Is.f k a0 a1 a2) (spec_l05Is.f (k + 1) a0 a1 a2) := by
  intro a0 a1 a2 k
  have ih0 := spec_l05Is.mono_l k
  unfold spec_l05Is.f
  repeat' first
      | (with_reducible exact ih0 _ _ _ _ _)
      | (with_reducible exact spec_l05Leases.mono _ _)
      | (with_reducible exact LeO.refl _)
      | (with_reducible exact LeO.none _)
      | (with_reducible refine LeO.ite ?_ ?_)
      | (with_reducible refine LeO.bind ?_ (fun _ => ?_))
      | exact ih0 _ _ _ _ _
      | exact spec_l05Leases.mono _ _
      | exact LeO.none _
      | refine LeO.ite ?_ ?_
      | refine LeO.bind ?_ (fun _ => ?_)
set_option maxHeartbeats 8000000 in
set_option maxRecDepth 100000 in
theorem spec_l05Is.calls (k : Nat) (g0_ : Nat) (A0_0 : Option Addr) (c0_0 : Nat) (l0_0 : List (S63)) (A0_1 : Option Addr) (c0_1 : Nat) (l0_1 : List (S63)) (A0_2 : Option Addr) (c0_2 : Nat) (l0_2 : List (S73)) (r : Bool) (w : World) (hbk0 : w.heap[g0_]? = some (.cells #[.slice A0_0 l0_0.length c0_0, .slice A0_1 l0_1.length c0_1, .slice A0_2 l0_2.length c0_2] 27 (0, 0))) (hr0_0 : Kd.C k63 w A0_0 l0_0.length l0_0) (hc0_0 : l0_0.length ≤ c0_0) (hr0_1 : Kd.C k63 w A0_1 l0_1.length l0_1) (hc0_1 : l0_1.length ≤ c0_1) (hr0_2 : Kd.C k73 w A0_2 l0_2.length l0_2) (hc0_2 : l0_2.length ≤ c0_2) (h : spec_l05Is.f k l0_0 l0_1 l0_2 = some r) :
    Calls Try.prog 57 #[.pointer (some ⟨g0_, 0, none⟩)] w fun e w' => e = .returned (.bool r) ∧ Below w.heap.size w w' := by
 have hu73 := Try.underlying73
 have HR0_0 := A_ hr0_0
 have HC0_0 := A_ hc0_0
 clear hr0_0 hc0_0
 have HR0_1 := A_ hr0_1
 have HC0_1 := A_ hc0_1
 clear hr0_1 hc0_1
 have HR0_2 := A_ hr0_2
 have HC0_2 := A_ hc0_2
 clear hr0_2 hc0_2
 have BK0 := A_ hbk0
 clear hbk0
 have HB := A_ (Below.refl w.heap.size w)
 have H : (spec_l05Is.l0 k (l0_2.length : Int) 0 l0_0 l0_1 l0_2) = some r := h
 clear h
 have H' := A_ H
 clear H
 have hcz2_0 := c1_ BK0 0 (.slice A0_0 l0_0.length c0_0)
 have hcz2_1 := c1_ BK0 1 (.slice A0_1 l0_1.length c0_1)
 have hcz2_2 := c1_ BK0 2 (.slice A0_2 l0_2.length c0_2)
 have hfz2_0 := f1_ BK0 0
 have hfz2_1 := f1_ BK0 1
 have hfz2_2 := f1_ BK0 2
 go_enter Try.func57, Try.ntmps57
 go_wp2
 repeat (go_quiet (fail); try go_wp2)
 go_loopg [10] k (fun kq v10 w' => ∃ (x10_1 : Int), v10 = .int .i64 x10_1 ∧ Aside0 (spec_l05Is.l0 kq (l0_2.length : Int) x10_1 l0_0 l0_1 l0_2 = some r) ∧ Aside0 (kq ≤ k) ∧ Aside0 (w'.heap[g0_]? = some (.cells #[(.slice A0_0 l0_0.length c0_0), (.slice A0_1 l0_1.length c0_1), (.slice A0_2 l0_2.length c0_2)] 27 (0, 0))) ∧ Aside0 (Below w.heap.size w w'))
 case atStart => exact ⟨(0), s1_, H', ⟨Nat.le_refl _⟩, ⟨b1_ BK0.out⟩, ⟨y1_ HB.out⟩⟩
 case round =>
  skip
  {
 clear H'
 try clear p2
 try clear hcz2_0
 try clear hcz2_1
 try clear hcz2_2
 try clear hfz2_0
 try clear hfz2_1
 try clear hfz2_2
 obtain ⟨x10_1, rfl, HA, HK1, BK0, HB⟩ := hrel
 cases gk with
 | zero => exact absurd HA.out (by simp [spec_l05Is.l0])
 | succ k1 =>
  skip
  {
 have H := HA.out
 clear HA
 simp only [spec_l05Is.l0] at H
 by_cases c3 : x10_1 < (l0_2.length : Int)
 {
 rw [if_pos c3] at H
 have c3b0 : decide (x10_1 < (l0_2.length : Int)) = true := decide_eq_true c3
 clear c3
 by_cases c4 : 0 ≤ x10_1
 {
 rw [if_pos c4] at H
 have c4b0 : decide (0 ≤ x10_1) = true := decide_eq_true c4
 clear c4
 by_cases c5 : x10_1 < (l0_2.length : Int)
 {
 rw [if_pos c5] at H
 have c5b0 : decide (x10_1 < (l0_2.length : Int)) = true := decide_eq_true c5
 clear c5
 replace H := Option.bind_eq_some_iff.mp H
 obtain ⟨t183, A60, H⟩ := H
 replace H : (if t183 = true then ((spec_l00In.f ((rd_T73 l0_2 x10_1).f1) 0 1000000000).bind fun t184 => (if t184 = true then (if x10_1 > 0 then (if 0 ≤ (wrap64 (x10_1 - 1)) then (if (wrap64 (x10_1 - 1)) < (l0_2.length : Int) then (if ((rd_T73 l0_2 (wrap64 (x10_1 - 1))).f0) ≥ ((rd_T73 l0_2 x10_1).f0) then (some false) else (spec_l05Is.l0 k1 (l0_2.length : Int) (wrap64 (x10_1 + 1)) l0_0 l0_1 l0_2)) else (none)) else (none)) else (spec_l05Is.l0 k1 (l0_2.length : Int) (wrap64 (x10_1 + 1)) l0_0 l0_1 l0_2)) else (some false))) else (some false)) = some r := H
 have A6 := A_ A60
 clear A60
 by_cases c7 : t183 = true
 {
 subst c7
 have H1 : ((spec_l00In.f ((rd_T73 l0_2 x10_1).f1) 0 1000000000).bind fun t184 => (if t184 = true then (if x10_1 > 0 then (if 0 ≤ (wrap64 (x10_1 - 1)) then (if (wrap64 (x10_1 - 1)) < (l0_2.length : Int) then (if ((rd_T73 l0_2 (wrap64 (x10_1 - 1))).f0) ≥ ((rd_T73 l0_2 x10_1).f0) then (some false) else (spec_l05Is.l0 k1 (l0_2.length : Int) (wrap64 (x10_1 + 1)) l0_0 l0_1 l0_2)) else (none)) else (none)) else (spec_l05Is.l0 k1 (l0_2.length : Int) (wrap64 (x10_1 + 1)) l0_0 l0_1 l0_2)) else (some false))) = some r := by rw [if_pos rfl] at H; exact H
 clear H
 have H := H1
 clear H1
 replace H := Option.bind_eq_some_iff.mp H
 obtain ⟨t184, A80, H⟩ := H
 replace H : (if t184 = true then (if x10_1 > 0 then (if 0 ≤ (wrap64 (x10_1 - 1)) then (if (wrap64 (x10_1 - 1)) < (l0_2.length : Int) then (if ((rd_T73 l0_2 (wrap64 (x10_1 - 1))).f0) ≥ ((rd_T73 l0_2 x10_1).f0) then (some false) else (spec_l05Is.l0 k1 (l0_2.length : Int) (wrap64 (x10_1 + 1)) l0_0 l0_1 l0_2)) else (none)) else (none)) else (spec_l05Is.l0 k1 (l0_2.length : Int) (wrap64 (x10_1 + 1)) l0_0 l0_1 l0_2)) else (some false)) = some r := H
 have A8 := A_ A80
 clear A80
 by_cases c9 : t184 = true
 {
 subst c9
 have H1 : (if x10_1 > 0 then (if 0 ≤ (wrap64 (x10_1 - 1)) then (if (wrap64 (x10_1 - 1)) < (l0_2.length : Int) then (if ((rd_T73 l0_2 (wrap64 (x10_1 - 1))).f0) ≥ ((rd_T73 l0_2 x10_1).f0) then (some false) else (spec_l05Is.l0 k1 (l0_2.length : Int) (wrap64 (x10_1 + 1)) l0_0 l0_1 l0_2)) else (none)) else (none)) else (spec_l05Is.l0 k1 (l0_2.length : Int) (wrap64 (x10_1 + 1)) l0_0 l0_1 l0_2)) = some r := by rw [if_pos rfl] at H; exact H
 clear H
 have H := H1
 clear H1
 by_cases c10 : x10_1 > 0
 {
 rw [if_pos c10] at H
 have c10b0 : decide (0 < x10_1) = true := decide_eq_true c10
 clear c10
 obtain ⟨ji11, hji11⟩ : ∃ j_ : Int, (wrap64 (x10_1 - 1)) = j_ := ⟨_, rfl⟩
 replace H : (if 0 ≤ (ji11) then (if (ji11) < (l0_2.length : Int) then (if ((rd_T73 l0_2 (ji11)).f0) ≥ ((rd_T73 l0_2 x10_1).f0) then (some false) else (spec_l05Is.l0 k1 (l0_2.length : Int) (wrap64 (x10_1 + 1)) l0_0 l0_1 l0_2)) else (none)) else (none)) = some r := by first | (rw [hji11] at H; exact H) | (simp only [hji11] at H ⊢; exact H)
 (try rw [hji11] at A6)
 (try rw [hji11] at A8)
 have hji11w : (IntKind.i64.wrap (x10_1 - 1)) = ji11 := (i64_w _).trans hji11
 by_cases c12 : 0 ≤ (ji11)
 {
 rw [if_pos c12] at H
 have c12b0 : decide (0 ≤ (ji11)) = true := decide_eq_true c12
 clear c12
 by_cases c13 : (ji11) < (l0_2.length : Int)
 {
 rw [if_pos c13] at H
 have c13b0 : decide ((ji11) < (l0_2.length : Int)) = true := decide_eq_true c13
 clear c13
 by_cases c14 : ((rd_T73 l0_2 (ji11)).f0) ≥ ((rd_T73 l0_2 x10_1).f0)
 {
 rw [if_pos c14] at H
 have c14b0 : decide (((rd_T73 l0_2 x10_1).f0) ≤ ((rd_T73 l0_2 (ji11)).f0)) = true := decide_eq_true c14
 clear c14
 obtain rfl := Option.some.inj H
 have hcz15_0 := c1_ BK0 0 (.slice A0_0 l0_0.length c0_0)
 have hcz15_1 := c1_ BK0 1 (.slice A0_1 l0_1.length c0_1)
 have hcz15_2 := c1_ BK0 2 (.slice A0_2 l0_2.length c0_2)
 have hfz15_0 := f1_ BK0 0
 have hfz15_1 := f1_ BK0 1
 have hfz15_2 := f1_ BK0 2
 have p181 : 0 ≤ (x10_1 : Int) := o1_
 have q181 : x10_1 < (l0_2.length : Int) := o1_
 obtain ⟨ad181, e181, hx181_0, hx181_1⟩ := at_T73 HR0_2.out x10_1 p181 q181
 cases e181
 replace hx181_0 := (HB.out.cell (World.block_lt_of_cell? w _ hx181_0)).trans hx181_0
 replace hx181_1 := (HB.out.cell (World.block_lt_of_cell? w _ hx181_1)).trans hx181_1
 replace p181 := eq_true p181
 replace q181 := eq_true q181
 go_wp2_with (first | ((with_reducible refine gate_dst (N := 4) rfl ?_); refine bx_ 4 #[.int .i64 0, .int .i64 0] 73 ?_; intro gb182 hg w16 hbox hb; have GW182 := b6_ hg HB; have GE182 := b6_ hg HB; have NB0_182 := b4_ hg BK0; have NB182_0 := b5_ hg BK0; replace BK0 := b3_ BK0 hb; replace HB := A_ (below_step (y1_ HB.out) hb); have BK182 := A_ (hbox); clear hb hbox hg; have hnb17 := NB182_0.out; have hnc17 := NB0_182.out; have hcz18_0 := c1_ BK182 0 (.int .i64 0); have hcz18_1 := c1_ BK182 1 (.int .i64 0); have hfz18_0 := f1_ BK182 0; have hfz18_1 := f1_ BK182 1; have hcz19_0 := c1_ BK0 0 (.slice A0_0 l0_0.length c0_0); have hcz19_1 := c1_ BK0 1 (.slice A0_1 l0_1.length c0_1); have hcz19_2 := c1_ BK0 2 (.slice (some ad181) l0_2.length c0_2); have hfz19_0 := f1_ BK0 0; have hfz19_1 := f1_ BK0 1; have hfz19_2 := f1_ BK0 2; have p185 : 0 ≤ ((ji11) : Int) := o1_; have q185 : (ji11) < (l0_2.length : Int) := o1_; obtain ⟨ad185, e185, hx185_0, hx185_1⟩ := at_T73 HR0_2.out (ji11) p185 q185; obtain rfl : ad181 = ad185 := (by injection e185); have hn185_0 : ad181.block ≠ gb182 := Nat.ne_of_lt (Nat.lt_of_lt_of_le (by have := World.block_lt_of_cell? _ _ hx185_0; first | rwa [add_block] at this | exact this) GW182.out); have hn185_1 : ad181.block ≠ gb182 := Nat.ne_of_lt (Nat.lt_of_lt_of_le (by have := World.block_lt_of_cell? _ _ hx185_0; first | rwa [add_block] at this | exact this) GW182.out); replace hx185_0 := (HB.out.cell (World.block_lt_of_cell? w _ hx185_0)).trans hx185_0; replace hx185_1 := (HB.out.cell (World.block_lt_of_cell? w _ hx185_1)).trans hx185_1; replace hx185_0 := (cell_far (p := ⟨gb182, 0, none⟩) (by first | (rw [add_block]; exact hn185_0) | (show (Addr.add _ _).block ≠ _; rw [add_block]; exact hn185_0) | exact hn185_0) (.int .i64 ((rd_T73 l0_2 x10_1).f0))).trans hx185_0; replace hx185_1 := (cell_far (p := ⟨gb182, 0, none⟩) (by first | (rw [add_block]; exact hn185_0) | (show (Addr.add _ _).block ≠ _; rw [add_block]; exact hn185_0) | exact hn185_0) (.int .i64 ((rd_T73 l0_2 x10_1).f0))).trans hx185_1; replace hx185_0 := (cell_far (p := ⟨gb182, 1, none⟩) (by first | (rw [add_block]; exact hn185_1) | (show (Addr.add _ _).block ≠ _; rw [add_block]; exact hn185_1) | exact hn185_1) (.int .i64 ((rd_T73 l0_2 x10_1).f1))).trans hx185_0; replace hx185_1 := (cell_far (p := ⟨gb182, 1, none⟩) (by first | (rw [add_block]; exact hn185_1) | (show (Addr.add _ _).block ≠ _; rw [add_block]; exact hn185_1) | exact hn185_1) (.int .i64 ((rd_T73 l0_2 x10_1).f1))).trans hx185_1; (try have hy185_0 := fun (n_ : Nat) => (show ((((w16.drewN n_).setCell ⟨gb182, 0, none⟩ (.int .i64 ((rd_T73 l0_2 x10_1).f0))).setCell ⟨gb182, 1, none⟩ (.int .i64 ((rd_T73 l0_2 x10_1).f1)))).cell? _ = some _ from hx185_0)); (try have hy185_1 := fun (n_ : Nat) => (show ((((w16.drewN n_).setCell ⟨gb182, 0, none⟩ (.int .i64 ((rd_T73 l0_2 x10_1).f0))).setCell ⟨gb182, 1, none⟩ (.int .i64 ((rd_T73 l0_2 x10_1).f1)))).cell? _ = some _ from hx185_1)); clear hn185_0; clear hn185_1; replace p185 := eq_true p185; replace q185 := eq_true q185) | (go_at_call 98; (with_reducible refine (spec_l01Member.calls ((rd_T73 l0_2 x10_1).f0) true _ A6.out).mono ?_); rintro e w' ⟨rfl, ⟨nd, rfl⟩⟩; (try exact d1_)) | (go_at_call 99; (with_reducible refine (spec_l00In.calls ((rd_T73 l0_2 x10_1).f1) 0 1000000000 true _ A8.out).mono ?_); rintro e w' ⟨rfl, ⟨nd, rfl⟩⟩; (try exact d1_)))
 repeat (go_quiet (first | ((with_reducible refine gate_dst (N := 4) rfl ?_); refine bx_ 4 #[.int .i64 0, .int .i64 0] 73 ?_; intro gb182 hg w16 hbox hb; have GW182 := b6_ hg HB; have GE182 := b6_ hg HB; have NB0_182 := b4_ hg BK0; have NB182_0 := b5_ hg BK0; replace BK0 := b3_ BK0 hb; replace HB := A_ (below_step (y1_ HB.out) hb); have BK182 := A_ (hbox); clear hb hbox hg; have hnb17 := NB182_0.out; have hnc17 := NB0_182.out; have hcz18_0 := c1_ BK182 0 (.int .i64 0); have hcz18_1 := c1_ BK182 1 (.int .i64 0); have hfz18_0 := f1_ BK182 0; have hfz18_1 := f1_ BK182 1; have hcz19_0 := c1_ BK0 0 (.slice A0_0 l0_0.length c0_0); have hcz19_1 := c1_ BK0 1 (.slice A0_1 l0_1.length c0_1); have hcz19_2 := c1_ BK0 2 (.slice (some ad181) l0_2.length c0_2); have hfz19_0 := f1_ BK0 0; have hfz19_1 := f1_ BK0 1; have hfz19_2 := f1_ BK0 2; have p185 : 0 ≤ ((ji11) : Int) := o1_; have q185 : (ji11) < (l0_2.length : Int) := o1_; obtain ⟨ad185, e185, hx185_0, hx185_1⟩ := at_T73 HR0_2.out (ji11) p185 q185; obtain rfl : ad181 = ad185 := (by injection e185); have hn185_0 : ad181.block ≠ gb182 := Nat.ne_of_lt (Nat.lt_of_lt_of_le (by have := World.block_lt_of_cell? _ _ hx185_0; first | rwa [add_block] at this | exact this) GW182.out); have hn185_1 : ad181.block ≠ gb182 := Nat.ne_of_lt (Nat.lt_of_lt_of_le (by have := World.block_lt_of_cell? _ _ hx185_0; first | rwa [add_block] at this | exact this) GW182.out); replace hx185_0 := (HB.out.cell (World.block_lt_of_cell? w _ hx185_0)).trans hx185_0; replace hx185_1 := (HB.out.cell (World.block_lt_of_cell? w _ hx185_1)).trans hx185_1; replace hx185_0 := (cell_far (p := ⟨gb182, 0, none⟩) (by first | (rw [add_block]; exact hn185_0) | (show (Addr.add _ _).block ≠ _; rw [add_block]; exact hn185_0) | exact hn185_0) (.int .i64 ((rd_T73 l0_2 x10_1).f0))).trans hx185_0; replace hx185_1 := (cell_far (p := ⟨gb182, 0, none⟩) (by first | (rw [add_block]; exact hn185_0) | (show (Addr.add _ _).block ≠ _; rw [add_block]; exact hn185_0) | exact hn185_0) (.int .i64 ((rd_T73 l0_2 x10_1).f0))).trans hx185_1; replace hx185_0 := (cell_far (p := ⟨gb182, 1, none⟩) (by first | (rw [add_block]; exact hn185_1) | (show (Addr.add _ _).block ≠ _; rw [add_block]; exact hn185_1) | exact hn185_1) (.int .i64 ((rd_T73 l0_2 x10_1).f1))).trans hx185_0; replace hx185_1 := (cell_far (p := ⟨gb182, 1, none⟩) (by first | (rw [add_block]; exact hn185_1) | (show (Addr.add _ _).block ≠ _; rw [add_block]; exact hn185_1) | exact hn185_1) (.int .i64 ((rd_T73 l0_2 x10_1).f1))).trans hx185_1; (try have hy185_0 := fun (n_ : Nat) => (show ((((w16.drewN n_).setCell ⟨gb182, 0, none⟩ (.int .i64 ((rd_T73 l0_2 x10_1).f0))).setCell ⟨gb182, 1, none⟩ (.int .i64 ((rd_T73 l0_2 x10_1).f1)))).cell? _ = some _ from hx185_0)); (try have hy185_1 := fun (n_ : Nat) => (show ((((w16.drewN n_).setCell ⟨gb182, 0, none⟩ (.int .i64 ((rd_T73 l0_2 x10_1).f0))).setCell ⟨gb182, 1, none⟩ (.int .i64 ((rd_T73 l0_2 x10_1).f1)))).cell? _ = some _ from hx185_1)); clear hn185_0; clear hn185_1; replace p185 := eq_true p185; replace q185 := eq_true q185) | (go_at_call 98; (with_reducible refine (spec_l01Member.calls ((rd_T73 l0_2 x10_1).f0) true _ A6.out).mono ?_); rintro e w' ⟨rfl, ⟨nd, rfl⟩⟩; (try exact d1_)) | (go_at_call 99; (with_reducible refine (spec_l00In.calls ((rd_T73 l0_2 x10_1).f1) 0 1000000000 true _ A8.out).mono ?_); rintro e w' ⟨rfl, ⟨nd, rfl⟩⟩; (try exact d1_))); try go_wp2_with (first | ((with_reducible refine gate_dst (N := 4) rfl ?_); refine bx_ 4 #[.int .i64 0, .int .i64 0] 73 ?_; intro gb182 hg w16 hbox hb; have GW182 := b6_ hg HB; have GE182 := b6_ hg HB; have NB0_182 := b4_ hg BK0; have NB182_0 := b5_ hg BK0; replace BK0 := b3_ BK0 hb; replace HB := A_ (below_step (y1_ HB.out) hb); have BK182 := A_ (hbox); clear hb hbox hg; have hnb17 := NB182_0.out; have hnc17 := NB0_182.out; have hcz18_0 := c1_ BK182 0 (.int .i64 0); have hcz18_1 := c1_ BK182 1 (.int .i64 0); have hfz18_0 := f1_ BK182 0; have hfz18_1 := f1_ BK182 1; have hcz19_0 := c1_ BK0 0 (.slice A0_0 l0_0.length c0_0); have hcz19_1 := c1_ BK0 1 (.slice A0_1 l0_1.length c0_1); have hcz19_2 := c1_ BK0 2 (.slice (some ad181) l0_2.length c0_2); have hfz19_0 := f1_ BK0 0; have hfz19_1 := f1_ BK0 1; have hfz19_2 := f1_ BK0 2; have p185 : 0 ≤ ((ji11) : Int) := o1_; have q185 : (ji11) < (l0_2.length : Int) := o1_; obtain ⟨ad185, e185, hx185_0, hx185_1⟩ := at_T73 HR0_2.out (ji11) p185 q185; obtain rfl : ad181 = ad185 := (by injection e185); have hn185_0 : ad181.block ≠ gb182 := Nat.ne_of_lt (Nat.lt_of_lt_of_le (by have := World.block_lt_of_cell? _ _ hx185_0; first | rwa [add_block] at this | exact this) GW182.out); have hn185_1 : ad181.block ≠ gb182 := Nat.ne_of_lt (Nat.lt_of_lt_of_le (by have := World.block_lt_of_cell? _ _ hx185_0; first | rwa [add_block] at this | exact this) GW182.out); replace hx185_0 := (HB.out.cell (World.block_lt_of_cell? w _ hx185_0)).trans hx185_0; replace hx185_1 := (HB.out.cell (World.block_lt_of_cell? w _ hx185_1)).trans hx185_1; replace hx185_0 := (cell_far (p := ⟨gb182, 0, none⟩) (by first | (rw [add_block]; exact hn185_0) | (show (Addr.add _ _).block ≠ _; rw [add_block]; exact hn185_0) | exact hn185_0) (.int .i64 ((rd_T73 l0_2 x10_1).f0))).trans hx185_0; replace hx185_1 := (cell_far (p := ⟨gb182, 0, none⟩) (by first | (rw [add_block]; exact hn185_0) | (show (Addr.add _ _).block ≠ _; rw [add_block]; exact hn185_0) | exact hn185_0) (.int .i64 ((rd_T73 l0_2 x10_1).f0))).trans hx185_1; replace hx185_0 := (cell_far (p := ⟨gb182, 1, none⟩) (by first | (rw [add_block]; exact hn185_1) | (show (Addr.add _ _).block ≠ _; rw [add_block]; exact hn185_1) | exact hn185_1) (.int .i64 ((rd_T73 l0_2 x10_1).f1))).trans hx185_0; replace hx185_1 := (cell_far (p := ⟨gb182, 1, none⟩) (by first | (rw [add_block]; exact hn185_1) | (show (Addr.add _ _).block ≠ _; rw [add_block]; exact hn185_1) | exact hn185_1) (.int .i64 ((rd_T73 l0_2 x10_1).f1))).trans hx185_1; (try have hy185_0 := fun (n_ : Nat) => (show ((((w16.drewN n_).setCell ⟨gb182, 0, none⟩ (.int .i64 ((rd_T73 l0_2 x10_1).f0))).setCell ⟨gb182, 1, none⟩ (.int .i64 ((rd_T73 l0_2 x10_1).f1)))).cell? _ = some _ from hx185_0)); (try have hy185_1 := fun (n_ : Nat) => (show ((((w16.drewN n_).setCell ⟨gb182, 0, none⟩ (.int .i64 ((rd_T73 l0_2 x10_1).f0))).setCell ⟨gb182, 1, none⟩ (.int .i64 ((rd_T73 l0_2 x10_1).f1)))).cell? _ = some _ from hx185_1)); clear hn185_0; clear hn185_1; replace p185 := eq_true p185; replace q185 := eq_true q185) | (go_at_call 98; (with_reducible refine (spec_l01Member.calls ((rd_T73 l0_2 x10_1).f0) true _ A6.out).mono ?_); rintro e w' ⟨rfl, ⟨nd, rfl⟩⟩; (try exact d1_)) | (go_at_call 99; (with_reducible refine (spec_l00In.calls ((rd_T73 l0_2 x10_1).f1) 0 1000000000 true _ A8.out).mono ?_); rintro e w' ⟨rfl, ⟨nd, rfl⟩⟩; (try exact d1_))))
 go_ret
 exact ⟨by first | rfl | (simp [errW_none, errW_some] <;> rfl) | (simp only [← hji11]; first | rfl | (simp [errW_none, errW_some] <;> rfl)) | (simp [*, errW_none, errW_some] <;> rfl), by repeat (first | (with_reducible first | exact HB.out | apply below_alloc | apply pw_below_drewN | apply below_drew1 | refine below_set ?_ GE182.out) | exact HB.out)⟩}
 {
 rw [if_neg c14] at H
 have c14b0 : decide (((rd_T73 l0_2 x10_1).f0) ≤ ((rd_T73 l0_2 (ji11)).f0)) = false := decide_eq_false c14
 clear c14
 have H' := A_ H
 clear H
 have hcz20_0 := c1_ BK0 0 (.slice A0_0 l0_0.length c0_0)
 have hcz20_1 := c1_ BK0 1 (.slice A0_1 l0_1.length c0_1)
 have hcz20_2 := c1_ BK0 2 (.slice A0_2 l0_2.length c0_2)
 have hfz20_0 := f1_ BK0 0
 have hfz20_1 := f1_ BK0 1
 have hfz20_2 := f1_ BK0 2
 have p181 : 0 ≤ (x10_1 : Int) := o1_
 have q181 : x10_1 < (l0_2.length : Int) := o1_
 obtain ⟨ad181, e181, hx181_0, hx181_1⟩ := at_T73 HR0_2.out x10_1 p181 q181
 cases e181
 replace hx181_0 := (HB.out.cell (World.block_lt_of_cell? w _ hx181_0)).trans hx181_0
 replace hx181_1 := (HB.out.cell (World.block_lt_of_cell? w _ hx181_1)).trans hx181_1
 replace p181 := eq_true p181
 replace q181 := eq_true q181
 go_wp2_with (first | ((with_reducible refine gate_dst (N := 4) rfl ?_); refine bx_ 4 #[.int .i64 0, .int .i64 0] 73 ?_; intro gb182 hg w21 hbox hb; have GW182 := b6_ hg HB; have GE182 := b6_ hg HB; have NB0_182 := b4_ hg BK0; have NB182_0 := b5_ hg BK0; replace BK0 := b3_ BK0 hb; replace HB := A_ (below_step (y1_ HB.out) hb); have BK182 := A_ (hbox); clear hb hbox hg; have hnb22 := NB182_0.out; have hnc22 := NB0_182.out; have hcz23_0 := c1_ BK182 0 (.int .i64 0); have hcz23_1 := c1_ BK182 1 (.int .i64 0); have hfz23_0 := f1_ BK182 0; have hfz23_1 := f1_ BK182 1; have hcz24_0 := c1_ BK0 0 (.slice A0_0 l0_0.length c0_0); have hcz24_1 := c1_ BK0 1 (.slice A0_1 l0_1.length c0_1); have hcz24_2 := c1_ BK0 2 (.slice (some ad181) l0_2.length c0_2); have hfz24_0 := f1_ BK0 0; have hfz24_1 := f1_ BK0 1; have hfz24_2 := f1_ BK0 2; have p185 : 0 ≤ ((ji11) : Int) := o1_; have q185 : (ji11) < (l0_2.length : Int) := o1_; obtain ⟨ad185, e185, hx185_0, hx185_1⟩ := at_T73 HR0_2.out (ji11) p185 q185; obtain rfl : ad181 = ad185 := (by injection e185); have hn185_0 : ad181.block ≠ gb182 := Nat.ne_of_lt (Nat.lt_of_lt_of_le (by have := World.block_lt_of_cell? _ _ hx185_0; first | rwa [add_block] at this | exact this) GW182.out); have hn185_1 : ad181.block ≠ gb182 := Nat.ne_of_lt (Nat.lt_of_lt_of_le (by have := World.block_lt_of_cell? _ _ hx185_0; first | rwa [add_block] at this | exact this) GW182.out); replace hx185_0 := (HB.out.cell (World.block_lt_of_cell? w _ hx185_0)).trans hx185_0; replace hx185_1 := (HB.out.cell (World.block_lt_of_cell? w _ hx185_1)).trans hx185_1; replace hx185_0 := (cell_far (p := ⟨gb182, 0, none⟩) (by first | (rw [add_block]; exact hn185_0) | (show (Addr.add _ _).block ≠ _; rw [add_block]; exact hn185_0) | exact hn185_0) (.int .i64 ((rd_T73 l0_2 x10_1).f0))).trans hx185_0; replace hx185_1 := (cell_far (p := ⟨gb182, 0, none⟩) (by first | (rw [add_block]; exact hn185_0) | (show (Addr.add _ _).block ≠ _; rw [add_block]; exact hn185_0) | exact hn185_0) (.int .i64 ((rd_T73 l0_2 x10_1).f0))).trans hx185_1; replace hx185_0 := (cell_far (p := ⟨gb182, 1, none⟩) (by first | (rw [add_block]; exact hn185_1) | (show (Addr.add _ _).block ≠ _; rw [add_block]; exact hn185_1) | exact hn185_1) (.int .i64 ((rd_T73 l0_2 x10_1).f1))).trans hx185_0; replace hx185_1 := (cell_far (p := ⟨gb182, 1, none⟩) (by first | (rw [add_block]; exact hn185_1) | (show (Addr.add _ _).block ≠ _; rw [add_block]; exact hn185_1) | exact hn185_1) (.int .i64 ((rd_T73 l0_2 x10_1).f1))).trans hx185_1; (try have hy185_0 := fun (n_ : Nat) => (show ((((w21.drewN n_).setCell ⟨gb182, 0, none⟩ (.int .i64 ((rd_T73 l0_2 x10_1).f0))).setCell ⟨gb182, 1, none⟩ (.int .i64 ((rd_T73 l0_2 x10_1).f1)))).cell? _ = some _ from hx185_0)); (try have hy185_1 := fun (n_ : Nat) => (show ((((w21.drewN n_).setCell ⟨gb182, 0, none⟩ (.int .i64 ((rd_T73 l0_2 x10_1).f0))).setCell ⟨gb182, 1, none⟩ (.int .i64 ((rd_T73 l0_2 x10_1).f1)))).cell? _ = some _ from hx185_1)); clear hn185_0; clear hn185_1; replace p185 := eq_true p185; replace q185 := eq_true q185) | (go_at_call 98; (with_reducible refine (spec_l01Member.calls ((rd_T73 l0_2 x10_1).f0) true _ A6.out).mono ?_); rintro e w' ⟨rfl, ⟨nd, rfl⟩⟩; (try exact d1_)) | (go_at_call 99; (with_reducible refine (spec_l00In.calls ((rd_T73 l0_2 x10_1).f1) 0 1000000000 true _ A8.out).mono ?_); rintro e w' ⟨rfl, ⟨nd, rfl⟩⟩; (try exact d1_)))
 repeat (go_quiet (first | ((with_reducible refine gate_dst (N := 4) rfl ?_); refine bx_ 4 #[.int .i64 0, .int .i64 0] 73 ?_; intro gb182 hg w21 hbox hb; have GW182 := b6_ hg HB; have GE182 := b6_ hg HB; have NB0_182 := b4_ hg BK0; have NB182_0 := b5_ hg BK0; replace BK0 := b3_ BK0 hb; replace HB := A_ (below_step (y1_ HB.out) hb); have BK182 := A_ (hbox); clear hb hbox hg; have hnb22 := NB182_0.out; have hnc22 := NB0_182.out; have hcz23_0 := c1_ BK182 0 (.int .i64 0); have hcz23_1 := c1_ BK182 1 (.int .i64 0); have hfz23_0 := f1_ BK182 0; have hfz23_1 := f1_ BK182 1; have hcz24_0 := c1_ BK0 0 (.slice A0_0 l0_0.length c0_0); have hcz24_1 := c1_ BK0 1 (.slice A0_1 l0_1.length c0_1); have hcz24_2 := c1_ BK0 2 (.slice (some ad181) l0_2.length c0_2); have hfz24_0 := f1_ BK0 0; have hfz24_1 := f1_ BK0 1; have hfz24_2 := f1_ BK0 2; have p185 : 0 ≤ ((ji11) : Int) := o1_; have q185 : (ji11) < (l0_2.length : Int) := o1_; obtain ⟨ad185, e185, hx185_0, hx185_1⟩ := at_T73 HR0_2.out (ji11) p185 q185; obtain rfl : ad181 = ad185 := (by injection e185); have hn185_0 : ad181.block ≠ gb182 := Nat.ne_of_lt (Nat.lt_of_lt_of_le (by have := World.block_lt_of_cell? _ _ hx185_0; first | rwa [add_block] at this | exact this) GW182.out); have hn185_1 : ad181.block ≠ gb182 := Nat.ne_of_lt (Nat.lt_of_lt_of_le (by have := World.block_lt_of_cell? _ _ hx185_0; first | rwa [add_block] at this | exact this) GW182.out); replace hx185_0 := (HB.out.cell (World.block_lt_of_cell? w _ hx185_0)).trans hx185_0; replace hx185_1 := (HB.out.cell (World.block_lt_of_cell? w _ hx185_1)).trans hx185_1; replace hx185_0 := (cell_far (p := ⟨gb182, 0, none⟩) (by first | (rw [add_block]; exact hn185_0) | (show (Addr.add _ _).block ≠ _; rw [add_block]; exact hn185_0) | exact hn185_0) (.int .i64 ((rd_T73 l0_2 x10_1).f0))).trans hx185_0; replace hx185_1 := (cell_far (p := ⟨gb182, 0, none⟩) (by first | (rw [add_block]; exact hn185_0) | (show (Addr.add _ _).block ≠ _; rw [add_block]; exact hn185_0) | exact hn185_0) (.int .i64 ((rd_T73 l0_2 x10_1).f0))).trans hx185_1; replace hx185_0 := (cell_far (p := ⟨gb182, 1, none⟩) (by first | (rw [add_block]; exact hn185_1) | (show (Addr.add _ _).block ≠ _; rw [add_block]; exact hn185_1) | exact hn185_1) (.int .i64 ((rd_T73 l0_2 x10_1).f1))).trans hx185_0; replace hx185_1 := (cell_far (p := ⟨gb182, 1, none⟩) (by first | (rw [add_block]; exact hn185_1) | (show (Addr.add _ _).block ≠ _; rw [add_block]; exact hn185_1) | exact hn185_1) (.int .i64 ((rd_T73 l0_2 x10_1).f1))).trans hx185_1; (try have hy185_0 := fun (n_ : Nat) => (show ((((w21.drewN n_).setCell ⟨gb182, 0, none⟩ (.int .i64 ((rd_T73 l0_2 x10_1).f0))).setCell ⟨gb182, 1, none⟩ (.int .i64 ((rd_T73 l0_2 x10_1).f1)))).cell? _ = some _ from hx185_0)); (try have hy185_1 := fun (n_ : Nat) => (show ((((w21.drewN n_).setCell ⟨gb182, 0, none⟩ (.int .i64 ((rd_T73 l0_2 x10_1).f0))).setCell ⟨gb182, 1, none⟩ (.int .i64 ((rd_T73 l0_2 x10_1).f1)))).cell? _ = some _ from hx185_1)); clear hn185_0; clear hn185_1; replace p185 := eq_true p185; replace q185 := eq_true q185) | (go_at_call 98; (with_reducible refine (spec_l01Member.calls ((rd_T73 l0_2 x10_1).f0) true _ A6.out).mono ?_); rintro e w' ⟨rfl, ⟨nd, rfl⟩⟩; (try exact d1_)) | (go_at_call 99; (with_reducible refine (spec_l00In.calls ((rd_T73 l0_2 x10_1).f1) 0 1000000000 true _ A8.out).mono ?_); rintro e w' ⟨rfl, ⟨nd, rfl⟩⟩; (try exact d1_))); try go_wp2_with (first | ((with_reducible refine gate_dst (N := 4) rfl ?_); refine bx_ 4 #[.int .i64 0, .int .i64 0] 73 ?_; intro gb182 hg w21 hbox hb; have GW182 := b6_ hg HB; have GE182 := b6_ hg HB; have NB0_182 := b4_ hg BK0; have NB182_0 := b5_ hg BK0; replace BK0 := b3_ BK0 hb; replace HB := A_ (below_step (y1_ HB.out) hb); have BK182 := A_ (hbox); clear hb hbox hg; have hnb22 := NB182_0.out; have hnc22 := NB0_182.out; have hcz23_0 := c1_ BK182 0 (.int .i64 0); have hcz23_1 := c1_ BK182 1 (.int .i64 0); have hfz23_0 := f1_ BK182 0; have hfz23_1 := f1_ BK182 1; have hcz24_0 := c1_ BK0 0 (.slice A0_0 l0_0.length c0_0); have hcz24_1 := c1_ BK0 1 (.slice A0_1 l0_1.length c0_1); have hcz24_2 := c1_ BK0 2 (.slice (some ad181) l0_2.length c0_2); have hfz24_0 := f1_ BK0 0; have hfz24_1 := f1_ BK0 1; have hfz24_2 := f1_ BK0 2; have p185 : 0 ≤ ((ji11) : Int) := o1_; have q185 : (ji11) < (l0_2.length : Int) := o1_; obtain ⟨ad185, e185, hx185_0, hx185_1⟩ := at_T73 HR0_2.out (ji11) p185 q185; obtain rfl : ad181 = ad185 := (by injection e185); have hn185_0 : ad181.block ≠ gb182 := Nat.ne_of_lt (Nat.lt_of_lt_of_le (by have := World.block_lt_of_cell? _ _ hx185_0; first | rwa [add_block] at this | exact this) GW182.out); have hn185_1 : ad181.block ≠ gb182 := Nat.ne_of_lt (Nat.lt_of_lt_of_le (by have := World.block_lt_of_cell? _ _ hx185_0; first | rwa [add_block] at this | exact this) GW182.out); replace hx185_0 := (HB.out.cell (World.block_lt_of_cell? w _ hx185_0)).trans hx185_0; replace hx185_1 := (HB.out.cell (World.block_lt_of_cell? w _ hx185_1)).trans hx185_1; replace hx185_0 := (cell_far (p := ⟨gb182, 0, none⟩) (by first | (rw [add_block]; exact hn185_0) | (show (Addr.add _ _).block ≠ _; rw [add_block]; exact hn185_0) | exact hn185_0) (.int .i64 ((rd_T73 l0_2 x10_1).f0))).trans hx185_0; replace hx185_1 := (cell_far (p := ⟨gb182, 0, none⟩) (by first | (rw [add_block]; exact hn185_0) | (show (Addr.add _ _).block ≠ _; rw [add_block]; exact hn185_0) | exact hn185_0) (.int .i64 ((rd_T73 l0_2 x10_1).f0))).trans hx185_1; replace hx185_0 := (cell_far (p := ⟨gb182, 1, none⟩) (by first | (rw [add_block]; exact hn185_1) | (show (Addr.add _ _).block ≠ _; rw [add_block]; exact hn185_1) | exact hn185_1) (.int .i64 ((rd_T73 l0_2 x10_1).f1))).trans hx185_0; replace hx185_1 := (cell_far (p := ⟨gb182, 1, none⟩) (by first | (rw [add_block]; exact hn185_1) | (show (Addr.add _ _).block ≠ _; rw [add_block]; exact hn185_1) | exact hn185_1) (.int .i64 ((rd_T73 l0_2 x10_1).f1))).trans hx185_1; (try have hy185_0 := fun (n_ : Nat) => (show ((((w21.drewN n_).setCell ⟨gb182, 0, none⟩ (.int .i64 ((rd_T73 l0_2 x10_1).f0))).setCell ⟨gb182, 1, none⟩ (.int .i64 ((rd_T73 l0_2 x10_1).f1)))).cell? _ = some _ from hx185_0)); (try have hy185_1 := fun (n_ : Nat) => (show ((((w21.drewN n_).setCell ⟨gb182, 0, none⟩ (.int .i64 ((rd_T73 l0_2 x10_1).f0))).setCell ⟨gb182, 1, none⟩ (.int .i64 ((rd_T73 l0_2 x10_1).f1)))).cell? _ = some _ from hx185_1)); clear hn185_0; clear hn185_1; replace p185 := eq_true p185; replace q185 := eq_true q185) | (go_at_call 98; (with_reducible refine (spec_l01Member.calls ((rd_T73 l0_2 x10_1).f0) true _ A6.out).mono ?_); rintro e w' ⟨rfl, ⟨nd, rfl⟩⟩; (try exact d1_)) | (go_at_call 99; (with_reducible refine (spec_l00In.calls ((rd_T73 l0_2 x10_1).f1) 0 1000000000 true _ A8.out).mono ?_); rintro e w' ⟨rfl, ⟨nd, rfl⟩⟩; (try exact d1_))))
 go_roundg k1
 case measure => have := HK1.out; omega
 case rel => exact ⟨(wrap64 (x10_1 + 1)), s1_, H', ⟨by have := HK1.out; omega⟩, ⟨by refine b1_ ?_; refine blk_far ?_ NB0_182.out _; refine b1_ ?_; refine blk_far ?_ NB0_182.out _; refine b1_ ?_; exact BK0.out⟩, ⟨by repeat (first | (with_reducible first | exact HB.out | apply below_alloc | apply pw_below_drewN | apply below_drew1 | refine below_set ?_ GE182.out) | exact HB.out)⟩⟩}}
 {
 rw [if_neg c13] at H
 exact absurd H (by simp)}}
 {
 rw [if_neg c12] at H
 exact absurd H (by simp)}}
 {
 rw [if_neg c10] at H
 have c10b0 : decide (0 < x10_1) = false := decide_eq_false c10
 clear c10
 have H' := A_ H
 clear H
 have hcz25_0 := c1_ BK0 0 (.slice A0_0 l0_0.length c0_0)
 have hcz25_1 := c1_ BK0 1 (.slice A0_1 l0_1.length c0_1)
 have hcz25_2 := c1_ BK0 2 (.slice A0_2 l0_2.length c0_2)
 have hfz25_0 := f1_ BK0 0
 have hfz25_1 := f1_ BK0 1
 have hfz25_2 := f1_ BK0 2
 have p181 : 0 ≤ (x10_1 : Int) := o1_
 have q181 : x10_1 < (l0_2.length : Int) := o1_
 obtain ⟨ad181, e181, hx181_0, hx181_1⟩ := at_T73 HR0_2.out x10_1 p181 q181
 cases e181
 replace hx181_0 := (HB.out.cell (World.block_lt_of_cell? w _ hx181_0)).trans hx181_0
 replace hx181_1 := (HB.out.cell (World.block_lt_of_cell? w _ hx181_1)).trans hx181_1
 replace p181 := eq_true p181
 replace q181 := eq_true q181
 go_wp2_with (first | ((with_reducible refine gate_dst (N := 4) rfl ?_); refine bx_ 4 #[.int .i64 0, .int .i64 0] 73 ?_; intro gb182 hg w26 hbox hb; have GW182 := b6_ hg HB; have GE182 := b6_ hg HB; have NB0_182 := b4_ hg BK0; have NB182_0 := b5_ hg BK0; replace BK0 := b3_ BK0 hb; replace HB := A_ (below_step (y1_ HB.out) hb); have BK182 := A_ (hbox); clear hb hbox hg; have hnb27 := NB182_0.out; have hnc27 := NB0_182.out; have hcz28_0 := c1_ BK182 0 (.int .i64 0); have hcz28_1 := c1_ BK182 1 (.int .i64 0); have hfz28_0 := f1_ BK182 0; have hfz28_1 := f1_ BK182 1) | (go_at_call 98; (with_reducible refine (spec_l01Member.calls ((rd_T73 l0_2 x10_1).f0) true _ A6.out).mono ?_); rintro e w' ⟨rfl, ⟨nd, rfl⟩⟩; (try exact d1_)) | (go_at_call 99; (with_reducible refine (spec_l00In.calls ((rd_T73 l0_2 x10_1).f1) 0 1000000000 true _ A8.out).mono ?_); rintro e w' ⟨rfl, ⟨nd, rfl⟩⟩; (try exact d1_)))
 repeat (go_quiet (first | ((with_reducible refine gate_dst (N := 4) rfl ?_); refine bx_ 4 #[.int .i64 0, .int .i64 0] 73 ?_; intro gb182 hg w26 hbox hb; have GW182 := b6_ hg HB; have GE182 := b6_ hg HB; have NB0_182 := b4_ hg BK0; have NB182_0 := b5_ hg BK0; replace BK0 := b3_ BK0 hb; replace HB := A_ (below_step (y1_ HB.out) hb); have BK182 := A_ (hbox); clear hb hbox hg; have hnb27 := NB182_0.out; have hnc27 := NB0_182.out; have hcz28_0 := c1_ BK182 0 (.int .i64 0); have hcz28_1 := c1_ BK182 1 (.int .i64 0); have hfz28_0 := f1_ BK182 0; have hfz28_1 := f1_ BK182 1) | (go_at_call 98; (with_reducible refine (spec_l01Member.calls ((rd_T73 l0_2 x10_1).f0) true _ A6.out).mono ?_); rintro e w' ⟨rfl, ⟨nd, rfl⟩⟩; (try exact d1_)) | (go_at_call 99; (with_reducible refine (spec_l00In.calls ((rd_T73 l0_2 x10_1).f1) 0 1000000000 true _ A8.out).mono ?_); rintro e w' ⟨rfl, ⟨nd, rfl⟩⟩; (try exact d1_))); try go_wp2_with (first | ((with_reducible refine gate_dst (N := 4) rfl ?_); refine bx_ 4 #[.int .i64 0, .int .i64 0] 73 ?_; intro gb182 hg w26 hbox hb; have GW182 := b6_ hg HB; have GE182 := b6_ hg HB; have NB0_182 := b4_ hg BK0; have NB182_0 := b5_ hg BK0; replace BK0 := b3_ BK0 hb; replace HB := A_ (below_step (y1_ HB.out) hb); have BK182 := A_ (hbox); clear hb hbox hg; have hnb27 := NB182_0.out; have hnc27 := NB0_182.out; have hcz28_0 := c1_ BK182 0 (.int .i64 0); have hcz28_1 := c1_ BK182 1 (.int .i64 0); have hfz28_0 := f1_ BK182 0; have hfz28_1 := f1_ BK182 1) | (go_at_call 98; (with_reducible refine (spec_l01Member.calls ((rd_T73 l0_2 x10_1).f0) true _ A6.out).mono ?_); rintro e w' ⟨rfl, ⟨nd, rfl⟩⟩; (try exact d1_)) | (go_at_call 99; (with_reducible refine (spec_l00In.calls ((rd_T73 l0_2 x10_1).f1) 0 1000000000 true _ A8.out).mono ?_); rintro e w' ⟨rfl, ⟨nd, rfl⟩⟩; (try exact d1_))))
 go_roundg k1
 case measure => have := HK1.out; omega
 case rel => exact ⟨(wrap64 (x10_1 + 1)), s1_, H', ⟨by have := HK1.out; omega⟩, ⟨by refine b1_ ?_; refine blk_far ?_ NB0_182.out _; refine b1_ ?_; refine blk_far ?_ NB0_182.out _; refine b1_ ?_; exact BK0.out⟩, ⟨by repeat (first | (with_reducible first | exact HB.out | apply below_alloc | apply pw_below_drewN | apply below_drew1 | refine below_set ?_ GE182.out) | exact HB.out)⟩⟩}}
 {
 replace c9 := Bool.eq_false_iff.mpr c9
 subst c9
 have H1 : (some false) = some r := by rw [if_neg (show ¬ (false = true) by decide)] at H; exact H
 clear H
 have H := H1
 clear H1
 obtain rfl := Option.some.inj H
 have hcz29_0 := c1_ BK0 0 (.slice A0_0 l0_0.length c0_0)
 have hcz29_1 := c1_ BK0 1 (.slice A0_1 l0_1.length c0_1)
 have hcz29_2 := c1_ BK0 2 (.slice A0_2 l0_2.length c0_2)
 have hfz29_0 := f1_ BK0 0
 have hfz29_1 := f1_ BK0 1
 have hfz29_2 := f1_ BK0 2
 have p181 : 0 ≤ (x10_1 : Int) := o1_
 have q181 : x10_1 < (l0_2.length : Int) := o1_
 obtain ⟨ad181, e181, hx181_0, hx181_1⟩ := at_T73 HR0_2.out x10_1 p181 q181
 cases e181
 replace hx181_0 := (HB.out.cell (World.block_lt_of_cell? w _ hx181_0)).trans hx181_0
 replace hx181_1 := (HB.out.cell (World.block_lt_of_cell? w _ hx181_1)).trans hx181_1
 replace p181 := eq_true p181
 replace q181 := eq_true q181
 go_wp2_with (first | ((with_reducible refine gate_dst (N := 4) rfl ?_); refine bx_ 4 #[.int .i64 0, .int .i64 0] 73 ?_; intro gb182 hg w30 hbox hb; have GW182 := b6_ hg HB; have GE182 := b6_ hg HB; have NB0_182 := b4_ hg BK0; have NB182_0 := b5_ hg BK0; replace BK0 := b3_ BK0 hb; replace HB := A_ (below_step (y1_ HB.out) hb); have BK182 := A_ (hbox); clear hb hbox hg; have hnb31 := NB182_0.out; have hnc31 := NB0_182.out; have hcz32_0 := c1_ BK182 0 (.int .i64 0); have hcz32_1 := c1_ BK182 1 (.int .i64 0); have hfz32_0 := f1_ BK182 0; have hfz32_1 := f1_ BK182 1) | (go_at_call 98; (with_reducible refine (spec_l01Member.calls ((rd_T73 l0_2 x10_1).f0) true _ A6.out).mono ?_); rintro e w' ⟨rfl, ⟨nd, rfl⟩⟩; (try exact d1_)) | (go_at_call 99; (with_reducible refine (spec_l00In.calls ((rd_T73 l0_2 x10_1).f1) 0 1000000000 false _ A8.out).mono ?_); rintro e w' ⟨rfl, ⟨nd, rfl⟩⟩; (try exact d1_)))
 repeat (go_quiet (first | ((with_reducible refine gate_dst (N := 4) rfl ?_); refine bx_ 4 #[.int .i64 0, .int .i64 0] 73 ?_; intro gb182 hg w30 hbox hb; have GW182 := b6_ hg HB; have GE182 := b6_ hg HB; have NB0_182 := b4_ hg BK0; have NB182_0 := b5_ hg BK0; replace BK0 := b3_ BK0 hb; replace HB := A_ (below_step (y1_ HB.out) hb); have BK182 := A_ (hbox); clear hb hbox hg; have hnb31 := NB182_0.out; have hnc31 := NB0_182.out; have hcz32_0 := c1_ BK182 0 (.int .i64 0); have hcz32_1 := c1_ BK182 1 (.int .i64 0); have hfz32_0 := f1_ BK182 0; have hfz32_1 := f1_ BK182 1) | (go_at_call 98; (with_reducible refine (spec_l01Member.calls ((rd_T73 l0_2 x10_1).f0) true _ A6.out).mono ?_); rintro e w' ⟨rfl, ⟨nd, rfl⟩⟩; (try exact d1_)) | (go_at_call 99; (with_reducible refine (spec_l00In.calls ((rd_T73 l0_2 x10_1).f1) 0 1000000000 false _ A8.out).mono ?_); rintro e w' ⟨rfl, ⟨nd, rfl⟩⟩; (try exact d1_))); try go_wp2_with (first | ((with_reducible refine gate_dst (N := 4) rfl ?_); refine bx_ 4 #[.int .i64 0, .int .i64 0] 73 ?_; intro gb182 hg w30 hbox hb; have GW182 := b6_ hg HB; have GE182 := b6_ hg HB; have NB0_182 := b4_ hg BK0; have NB182_0 := b5_ hg BK0; replace BK0 := b3_ BK0 hb; replace HB := A_ (below_step (y1_ HB.out) hb); have BK182 := A_ (hbox); clear hb hbox hg; have hnb31 := NB182_0.out; have hnc31 := NB0_182.out; have hcz32_0 := c1_ BK182 0 (.int .i64 0); have hcz32_1 := c1_ BK182 1 (.int .i64 0); have hfz32_0 := f1_ BK182 0; have hfz32_1 := f1_ BK182 1) | (go_at_call 98; (with_reducible refine (spec_l01Member.calls ((rd_T73 l0_2 x10_1).f0) true _ A6.out).mono ?_); rintro e w' ⟨rfl, ⟨nd, rfl⟩⟩; (try exact d1_)) | (go_at_call 99; (with_reducible refine (spec_l00In.calls ((rd_T73 l0_2 x10_1).f1) 0 1000000000 false _ A8.out).mono ?_); rintro e w' ⟨rfl, ⟨nd, rfl⟩⟩; (try exact d1_))))
 go_ret
 exact ⟨e1_, by repeat (first | (with_reducible first | exact HB.out | apply below_alloc | apply pw_below_drewN | apply below_drew1 | refine below_set ?_ GE182.out) | exact HB.out)⟩}}
 {
 replace c7 := Bool.eq_false_iff.mpr c7
 subst c7
 have H1 : (some false) = some r := by rw [if_neg (show ¬ (false = true) by decide)] at H; exact H
 clear H
 have H := H1
 clear H1
 obtain rfl := Option.some.inj H
 have hcz33_0 := c1_ BK0 0 (.slice A0_0 l0_0.length c0_0)
 have hcz33_1 := c1_ BK0 1 (.slice A0_1 l0_1.length c0_1)
 have hcz33_2 := c1_ BK0 2 (.slice A0_2 l0_2.length c0_2)
 have hfz33_0 := f1_ BK0 0
 have hfz33_1 := f1_ BK0 1
 have hfz33_2 := f1_ BK0 2
 have p181 : 0 ≤ (x10_1 : Int) := o1_
 have q181 : x10_1 < (l0_2.length : Int) := o1_
 obtain ⟨ad181, e181, hx181_0, hx181_1⟩ := at_T73 HR0_2.out x10_1 p181 q181
 cases e181
 replace hx181_0 := (HB.out.cell (World.block_lt_of_cell? w _ hx181_0)).trans hx181_0
 replace hx181_1 := (HB.out.cell (World.block_lt_of_cell? w _ hx181_1)).trans hx181_1
 replace p181 := eq_true p181
 replace q181 := eq_true q181
 go_wp2_with (first | ((with_reducible refine gate_dst (N := 4) rfl ?_); refine bx_ 4 #[.int .i64 0, .int .i64 0] 73 ?_; intro gb182 hg w34 hbox hb; have GW182 := b6_ hg HB; have GE182 := b6_ hg HB; have NB0_182 := b4_ hg BK0; have NB182_0 := b5_ hg BK0; replace BK0 := b3_ BK0 hb; replace HB := A_ (below_step (y1_ HB.out) hb); have BK182 := A_ (hbox); clear hb hbox hg; have hnb35 := NB182_0.out; have hnc35 := NB0_182.out; have hcz36_0 := c1_ BK182 0 (.int .i64 0); have hcz36_1 := c1_ BK182 1 (.int .i64 0); have hfz36_0 := f1_ BK182 0; have hfz36_1 := f1_ BK182 1) | (go_at_call 98; (with_reducible refine (spec_l01Member.calls ((rd_T73 l0_2 x10_1).f0) false _ A6.out).mono ?_); rintro e w' ⟨rfl, ⟨nd, rfl⟩⟩; (try exact d1_)))
 repeat (go_quiet (first | ((with_reducible refine gate_dst (N := 4) rfl ?_); refine bx_ 4 #[.int .i64 0, .int .i64 0] 73 ?_; intro gb182 hg w34 hbox hb; have GW182 := b6_ hg HB; have GE182 := b6_ hg HB; have NB0_182 := b4_ hg BK0; have NB182_0 := b5_ hg BK0; replace BK0 := b3_ BK0 hb; replace HB := A_ (below_step (y1_ HB.out) hb); have BK182 := A_ (hbox); clear hb hbox hg; have hnb35 := NB182_0.out; have hnc35 := NB0_182.out; have hcz36_0 := c1_ BK182 0 (.int .i64 0); have hcz36_1 := c1_ BK182 1 (.int .i64 0); have hfz36_0 := f1_ BK182 0; have hfz36_1 := f1_ BK182 1) | (go_at_call 98; (with_reducible refine (spec_l01Member.calls ((rd_T73 l0_2 x10_1).f0) false _ A6.out).mono ?_); rintro e w' ⟨rfl, ⟨nd, rfl⟩⟩; (try exact d1_))); try go_wp2_with (first | ((with_reducible refine gate_dst (N := 4) rfl ?_); refine bx_ 4 #[.int .i64 0, .int .i64 0] 73 ?_; intro gb182 hg w34 hbox hb; have GW182 := b6_ hg HB; have GE182 := b6_ hg HB; have NB0_182 := b4_ hg BK0; have NB182_0 := b5_ hg BK0; replace BK0 := b3_ BK0 hb; replace HB := A_ (below_step (y1_ HB.out) hb); have BK182 := A_ (hbox); clear hb hbox hg; have hnb35 := NB182_0.out; have hnc35 := NB0_182.out; have hcz36_0 := c1_ BK182 0 (.int .i64 0); have hcz36_1 := c1_ BK182 1 (.int .i64 0); have hfz36_0 := f1_ BK182 0; have hfz36_1 := f1_ BK182 1) | (go_at_call 98; (with_reducible refine (spec_l01Member.calls ((rd_T73 l0_2 x10_1).f0) false _ A6.out).mono ?_); rintro e w' ⟨rfl, ⟨nd, rfl⟩⟩; (try exact d1_))))
 go_ret
 exact ⟨e1_, by repeat (first | (with_reducible first | exact HB.out | apply below_alloc | apply pw_below_drewN | apply below_drew1 | refine below_set ?_ GE182.out) | exact HB.out)⟩}}
 {
 rw [if_neg c5] at H
 exact absurd H (by simp)}}
 {
 rw [if_neg c4] at H
 exact absurd H (by simp)}}
 {
 rw [if_neg c3] at H
 have c3b0 : decide (x10_1 < (l0_2.length : Int)) = false := decide_eq_false c3
 clear c3
 by_cases c37 : (l0_2.length : Int) ≤ 30
 {
 rw [if_pos c37] at H
 have c37b0 : decide ((l0_2.length : Int) ≤ 30) = true := decide_eq_true c37
 have c37b1 : decide (l0_2.length ≤ 30) = true := decide_eq_true (by omega)
 clear c37
 replace H := Option.bind_eq_some_iff.mp H
 obtain ⟨t179, A380, H⟩ := H
 replace H : (if t179 = true then ((spec_l05Leases.f k1 l0_1).bind fun t180 => (some t180)) else (some false)) = some r := H
 have A38 := A_ A380
 clear A380
 by_cases c39 : t179 = true
 {
 subst c39
 have H1 : ((spec_l05Leases.f k1 l0_1).bind fun t180 => (some t180)) = some r := by rw [if_pos rfl] at H; exact H
 clear H
 have H := H1
 clear H1
 replace H := Option.bind_eq_some_iff.mp H
 obtain ⟨t180, A400, H⟩ := H
 replace H : (some t180) = some r := H
 have A40 := A_ A400
 clear A400
 obtain rfl := Option.some.inj H
 have hcz41_0 := c1_ BK0 0 (.slice A0_0 l0_0.length c0_0)
 have hcz41_1 := c1_ BK0 1 (.slice A0_1 l0_1.length c0_1)
 have hcz41_2 := c1_ BK0 2 (.slice A0_2 l0_2.length c0_2)
 have hfz41_0 := f1_ BK0 0
 have hfz41_1 := f1_ BK0 1
 have hfz41_2 := f1_ BK0 2
 go_wp2_with (first | (go_at_call 100; (with_reducible refine (spec_l05Leases.calls k1 _ _ l0_0 true _ ?side1 ?side2 A38.out).mono ?_); (case side1 => exact y2_ (Kd.C_below HR0_0.out HB.out)); (case side2 => exact HC0_0.out); rintro e w42 ⟨rfl, hb⟩; replace BK0 := b3_ BK0 hb; replace HB := A_ (below_step (y1_ HB.out) hb); (try clear hb); (try clear hb2); (try clear hk); (try clear hi); have hcz43_0 := c1_ BK0 0 (.slice A0_0 l0_0.length c0_0); have hcz43_1 := c1_ BK0 1 (.slice A0_1 l0_1.length c0_1); have hcz43_2 := c1_ BK0 2 (.slice A0_2 l0_2.length c0_2); have hfz43_0 := f1_ BK0 0; have hfz43_1 := f1_ BK0 1; have hfz43_2 := f1_ BK0 2) | (go_at_call 100; (with_reducible refine (spec_l05Leases.calls k1 _ _ l0_1 t180 _ ?side1 ?side2 A40.out).mono ?_); (case side1 => exact y2_ (Kd.C_below HR0_1.out HB.out)); (case side2 => exact HC0_1.out); rintro e w44 ⟨rfl, hb⟩; replace BK0 := b3_ BK0 hb; replace HB := A_ (below_step (y1_ HB.out) hb); (try clear hb); (try clear hb2); (try clear hk); (try clear hi)))
 repeat (go_quiet (first | (go_at_call 100; (with_reducible refine (spec_l05Leases.calls k1 _ _ l0_0 true _ ?side1 ?side2 A38.out).mono ?_); (case side1 => exact y2_ (Kd.C_below HR0_0.out HB.out)); (case side2 => exact HC0_0.out); rintro e w42 ⟨rfl, hb⟩; replace BK0 := b3_ BK0 hb; replace HB := A_ (below_step (y1_ HB.out) hb); (try clear hb); (try clear hb2); (try clear hk); (try clear hi); have hcz43_0 := c1_ BK0 0 (.slice A0_0 l0_0.length c0_0); have hcz43_1 := c1_ BK0 1 (.slice A0_1 l0_1.length c0_1); have hcz43_2 := c1_ BK0 2 (.slice A0_2 l0_2.length c0_2); have hfz43_0 := f1_ BK0 0; have hfz43_1 := f1_ BK0 1; have hfz43_2 := f1_ BK0 2) | (go_at_call 100; (with_reducible refine (spec_l05Leases.calls k1 _ _ l0_1 t180 _ ?side1 ?side2 A40.out).mono ?_); (case side1 => exact y2_ (Kd.C_below HR0_1.out HB.out)); (case side2 => exact HC0_1.out); rintro e w44 ⟨rfl, hb⟩; replace BK0 := b3_ BK0 hb; replace HB := A_ (below_step (y1_ HB.out) hb); (try clear hb); (try clear hb2); (try clear hk); (try clear hi))); try go_wp2_with (first | (go_at_call 100; (with_reducible refine (spec_l05Leases.calls k1 _ _ l0_0 true _ ?side1 ?side2 A38.out).mono ?_); (case side1 => exact y2_ (Kd.C_below HR0_0.out HB.out)); (case side2 => exact HC0_0.out); rintro e w42 ⟨rfl, hb⟩; replace BK0 := b3_ BK0 hb; replace HB := A_ (below_step (y1_ HB.out) hb); (try clear hb); (try clear hb2); (try clear hk); (try clear hi); have hcz43_0 := c1_ BK0 0 (.slice A0_0 l0_0.length c0_0); have hcz43_1 := c1_ BK0 1 (.slice A0_1 l0_1.length c0_1); have hcz43_2 := c1_ BK0 2 (.slice A0_2 l0_2.length c0_2); have hfz43_0 := f1_ BK0 0; have hfz43_1 := f1_ BK0 1; have hfz43_2 := f1_ BK0 2) | (go_at_call 100; (with_reducible refine (spec_l05Leases.calls k1 _ _ l0_1 t180 _ ?side1 ?side2 A40.out).mono ?_); (case side1 => exact y2_ (Kd.C_below HR0_1.out HB.out)); (case side2 => exact HC0_1.out); rintro e w44 ⟨rfl, hb⟩; replace BK0 := b3_ BK0 hb; replace HB := A_ (below_step (y1_ HB.out) hb); (try clear hb); (try clear hb2); (try clear hk); (try clear hi))))
 go_ret
 exact ⟨e1_, y1_ HB.out⟩}
 {
 replace c39 := Bool.eq_false_iff.mpr c39
 subst c39
 have H1 : (some false) = some r := by rw [if_neg (show ¬ (false = true) by decide)] at H; exact H
 clear H
 have H := H1
 clear H1
 obtain rfl := Option.some.inj H
 have hcz45_0 := c1_ BK0 0 (.slice A0_0 l0_0.length c0_0)
 have hcz45_1 := c1_ BK0 1 (.slice A0_1 l0_1.length c0_1)
 have hcz45_2 := c1_ BK0 2 (.slice A0_2 l0_2.length c0_2)
 have hfz45_0 := f1_ BK0 0
 have hfz45_1 := f1_ BK0 1
 have hfz45_2 := f1_ BK0 2
 go_wp2_with (first | (go_at_call 100; (with_reducible refine (spec_l05Leases.calls k1 _ _ l0_0 false _ ?side1 ?side2 A38.out).mono ?_); (case side1 => exact y2_ (Kd.C_below HR0_0.out HB.out)); (case side2 => exact HC0_0.out); rintro e w46 ⟨rfl, hb⟩; replace BK0 := b3_ BK0 hb; replace HB := A_ (below_step (y1_ HB.out) hb); (try clear hb); (try clear hb2); (try clear hk); (try clear hi)))
 repeat (go_quiet (first | (go_at_call 100; (with_reducible refine (spec_l05Leases.calls k1 _ _ l0_0 false _ ?side1 ?side2 A38.out).mono ?_); (case side1 => exact y2_ (Kd.C_below HR0_0.out HB.out)); (case side2 => exact HC0_0.out); rintro e w46 ⟨rfl, hb⟩; replace BK0 := b3_ BK0 hb; replace HB := A_ (below_step (y1_ HB.out) hb); (try clear hb); (try clear hb2); (try clear hk); (try clear hi))); try go_wp2_with (first | (go_at_call 100; (with_reducible refine (spec_l05Leases.calls k1 _ _ l0_0 false _ ?side1 ?side2 A38.out).mono ?_); (case side1 => exact y2_ (Kd.C_below HR0_0.out HB.out)); (case side2 => exact HC0_0.out); rintro e w46 ⟨rfl, hb⟩; replace BK0 := b3_ BK0 hb; replace HB := A_ (below_step (y1_ HB.out) hb); (try clear hb); (try clear hb2); (try clear hk); (try clear hi))))
 go_ret
 exact ⟨e1_, y1_ HB.out⟩}}
 {
 rw [if_neg c37] at H
 have c37b0 : decide ((l0_2.length : Int) ≤ 30) = false := decide_eq_false c37
 have c37b1 : decide (l0_2.length ≤ 30) = false := decide_eq_false (by omega)
 clear c37
 obtain rfl := Option.some.inj H
 have hcz47_0 := c1_ BK0 0 (.slice A0_0 l0_0.length c0_0)
 have hcz47_1 := c1_ BK0 1 (.slice A0_1 l0_1.length c0_1)
 have hcz47_2 := c1_ BK0 2 (.slice A0_2 l0_2.length c0_2)
 have hfz47_0 := f1_ BK0 0
 have hfz47_1 := f1_ BK0 1
 have hfz47_2 := f1_ BK0 2
 go_wp2
 repeat (go_quiet (fail); try go_wp2)
 go_ret
 exact ⟨e1_, y1_ HB.out⟩}}}}

end Go.Proofs.Ytgfilednbllkmaa.QFnExactJoinPresence
