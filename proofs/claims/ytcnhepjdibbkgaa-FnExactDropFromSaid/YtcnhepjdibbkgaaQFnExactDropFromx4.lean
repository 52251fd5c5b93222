-- written by a program of this session, on the lines of the kit's print
import Derived.Test.YtcnhepjdibbkgaaQFnExactDropFromx0
import Derived.Test.YtcnhepjdibbkgaaQFnExactDropFromx3
namespace Go.Proofs.Ytcnhepjdibbkgaa.QFnExactDropFrom
open Go.RowKit Go.Proofs.YtcnhepjdibbkgaaW.PrintWords Go.Proofs.YtcnhepjdibbkgaaW.PrintLast Go.Proofs.YtcnhepjdibbkgaaW.PrintMore
attribute [local go_sem] max2_int min2_int max_two min_two max_three min_three max_four min_four   -- for this text's walks alone
set_option linter.unusedVariables false
set_option linter.unusedSimpArgs false

/-! ### spec_l08Is: function 50 -/
abbrev spec_l08Is.T : Bool := true
abbrev spec_l08Is.F : Bool := false
mutual
def spec_l08Is.l0 : Nat → Int → List (S63) → Option (Bool)
  | 0, _, _ => none
  | k + 1, x3, x1000 => if x3 < (x1000.length : Int) then (if 0 ≤ x3 then ((spec_l08Word.f k ((rd_T63 x1000 x3).f0)).bind fun t154 => (if t154 = true then (if x3 > 0 then (if 0 ≤ (wrap64 (x3 - 1)) then (if (wrap64 (x3 - 1)) < (x1000.length : Int) then (spec_l08Is.j1 k x3 x1000 (!(Op.bytesLess (((rd_T63 x1000 (wrap64 (x3 - 1))).f0).toList) (((rd_T63 x1000 x3).f0).toList))) x1000) else (none)) else (none)) else (spec_l08Is.j1 k x3 x1000 false x1000)) else (spec_l08Is.j1 k x3 x1000 true x1000))) else (none)) else (some true)
def spec_l08Is.j1 : Nat → Int → List (S63) → Bool → List (S63) → Option (Bool)
  | 0, _, _, _, _ => none
  | k + 1, x3, x9, x45, x1000 => if x45 = true then (some false) else (if (((rd_T63 x9 x3).f1).length : Int) < 1 then (some false) else (if (((rd_T63 x9 x3).f1).length : Int) > 40 then (some false) else ((spec_l00Rises.f k ((rd_T63 x9 x3).f1) 1 1000000000).bind fun t157 => (if t157 = true then (spec_l08Is.l0 k (wrap64 (x3 + 1)) x1000) else (some false)))))
end
def spec_l08Is.f (k : Nat) (l0_0 : List (S63)) : Option (Bool) := spec_l08Is.l0 k 0 l0_0
theorem spec_l08Is.mono_l : ∀ k, (∀ y0 y1, LeO (spec_l08Is.l0 k y0 y1) (spec_l08Is.l0 (k + 1) y0 y1)) ∧ (∀ y0 y1 y2 y3, LeO (spec_l08Is.j1 k y0 y1 y2 y3) (spec_l08Is.j1 (k + 1) y0 y1 y2 y3))
  | 0 => ⟨fun _ _ r h => by simp [spec_l08Is.l0] at h, fun _ _ _ _ r h => by simp [spec_l08Is.j1] at h⟩
  | k + 1 => by
    obtain ⟨ih0, ih1⟩ := spec_l08Is.mono_l k
    refine ⟨?_, ?_⟩
    · intro y0 y1
      unfold spec_l08Is.l0
      repeat' first
      | (with_reducible exact ih0 _ _)
      | (with_reducible exact ih1 _ _ _ _)
      | (with_reducible exact spec_l00Rises.mono _ _ _ _)
      | (with_reducible exact spec_l08Word.mono _ _)
      | (with_reducible exact LeO.refl _)
      | (with_reducible exact LeO.none _)
      | (with_reducible refine LeO.ite ?_ ?_)
      | (with_reducible refine LeO.bind ?_ (fun _ => ?_))
      | exact ih0 _ _
      | exact ih1 _ _ _ _
      | exact spec_l00Rises.mono _ _ _ _
      | exact spec_l08Word.mono _ _
      | exact LeO.none _
      | refine LeO.ite ?_ ?_
      | refine LeO.bind ?_ (fun _ => ?_)
    · intro y0 y1 y2 y3
      unfold spec_l08Is.j1
      repeat' first
      | (with_reducible exact ih0 _ _)
      | (with_reducible exact ih1 _ _ _ _)
      | (with_reducible exact spec_l00Rises.mono _ _ _ _)
      | (with_reducible exact spec_l08Word.mono _ _)
      | (with_reducible exact LeO.refl _)
      | (with_reducible exact LeO.none _)
      | (with_reducible refine LeO.ite ?_ ?_)
      | (with_reducible refine LeO.bind ?_ (fun _ => ?_))
      | exact ih0 _ _
      | exact ih1 _ _ _ _
      | exact spec_l00Rises.mono _ _ _ _
      | exact spec_l08Word.mono _ _
      | exact LeO.none _
      | refine LeO.ite ?_ ?_
      | refine LeO.bind ?_ (fun _ => ?_)
theorem spec_l08Is.mono : ∀ a0 k, LeO (spec_l08Is.f k a0) (spec_l08Is.f (k + 1) a0) := by
  intro a0 k
  obtain ⟨ih0, ih1⟩ := spec_l08Is.mono_l k
  unfold spec_l08Is.f
  repeat' first
      | (with_reducible exact ih0 _ _)
      | (with_reducible exact ih1 _ _ _ _)
      | (with_reducible exact spec_l00Rises.mono _ _ _ _)
      | (with_reducible exact spec_l08Word.mono _ _)
      | (with_reducible exact LeO.refl _)
      | (with_reducible exact LeO.none _)
      | (with_reducible refine LeO.ite ?_ ?_)
      | (with_reducible refine LeO.bind ?_ (fun _ => ?_))
      | exact ih0 _ _
      | exact ih1 _ _ _ _
      | exact spec_l00Rises.mono _ _ _ _
      | exact spec_l08Word.mono _ _
      | exact LeO.none _
      | refine LeO.ite ?_ ?_
      | refine LeO.bind ?_ (fun _ => ?_)
set_option maxHeartbeats 8000000 in
set_option maxRecDepth 100000 in
theorem spec_l08Is.calls (k : Nat) (g0_ : Nat) (A0_0 : Option Addr) (c0_0 : Nat) (l0_0 : List (S63)) (r : Bool) (w : World) (hbk0 : w.heap[g0_]? = some (.cells #[.slice A0_0 l0_0.length c0_0] 29 (0, 0))) (hr0_0 : Kd.C k63 w A0_0 l0_0.length l0_0) (hc0_0 : l0_0.length ≤ c0_0) (h : spec_l08Is.f k l0_0 = some r) :
    Calls Try.prog 50 #[.pointer (some ⟨g0_, 0, none⟩)] w fun e w' => e = .returned (.bool r) ∧ Below w.heap.size w w' := by
 have HR0_0 := A_ hr0_0
 have HC0_0 := A_ hc0_0
 clear hr0_0 hc0_0
 have BK0 := A_ hbk0
 clear hbk0
 have HB := A_ (Below.refl w.heap.size w)
 have H : (spec_l08Is.l0 k 0 l0_0) = some r := h
 clear h
 have H' := A_ H
 clear H
 go_enter Try.func50, Try.ntmps50
 go_wp2
 repeat (go_quiet (fail); try go_wp2)
 go_loopg [3] k (fun kq v3 w' => ∃ (x3_1 : Int), v3 = .int .i64 x3_1 ∧ Aside0 (spec_l08Is.l0 kq x3_1 l0_0 = some r) ∧ Aside0 (kq ≤ k) ∧ Aside0 (w'.heap[g0_]? = some (.cells #[(.slice A0_0 l0_0.length c0_0)] 29 (0, 0))) ∧ Aside0 (Below w.heap.size w w'))
 case atStart => exact ⟨(0), s1_, H', ⟨Nat.le_refl _⟩, ⟨b1_ BK0.out⟩, ⟨y1_ HB.out⟩⟩
 case round =>
  skip
  {
 clear H'
 obtain ⟨x3_1, rfl, HA, HK1, BK0, HB⟩ := hrel
 cases gk with
 | zero => exact absurd HA.out (by simp [spec_l08Is.l0])
 | succ k1 =>
  skip
  {
 have H := HA.out
 clear HA
 simp only [spec_l08Is.l0] at H
 by_cases c2 : x3_1 < (l0_0.length : Int)
 {
 rw [if_pos c2] at H
 have c2b0 : decide (x3_1 < (l0_0.length : Int)) = true := decide_eq_true c2
 clear c2
 by_cases c3 : 0 ≤ x3_1
 {
 rw [if_pos c3] at H
 have c3b0 : decide (0 ≤ x3_1) = true := decide_eq_true c3
 clear c3
 have HC4 := A_ H
 clear H
 have hcz5_0 := c1_ BK0 0 (.slice A0_0 l0_0.length c0_0)
 have hfz5_0 := blk_frozen BK0.out 0
 have p153 : 0 ≤ (x3_1 : Int) := o1_
 have q153 : x3_1 < (l0_0.length : Int) := o1_
 have hbd153 := A_ (And.intro p153 q153)
 obtain ⟨ad153, A153_1, c153_1, e153, hx153_0, hx153_1, hl153_1, hi153_1⟩ := at_T63 HR0_0.out x3_1 p153 q153
 cases e153
 replace hx153_0 := (HB.out.cell (World.block_lt_of_cell? w _ hx153_0)).trans hx153_0
 replace hx153_1 := (HB.out.cell (World.block_lt_of_cell? w _ hx153_1)).trans hx153_1
 have HR153_1 := A_ hi153_1
 have HC153_1 := A_ hl153_1
 clear hi153_1 hl153_1
 replace p153 := eq_true p153
 replace q153 := eq_true q153
 go_upto_region 5 with (fail)
 repeat (go_quiet (fail); go_upto_region 5 with (fail))
 go_cut [45] (fun v45 wc => ∃ (kq : Nat) (x45_3 : Bool), v45 = .bool x45_3 ∧ Aside0 (spec_l08Is.j1 kq x3_1 l0_0 x45_3 l0_0 = some r) ∧ Aside0 (kq ≤ k1) ∧ Aside0 (wc.heap[g0_]? = some (.cells #[(.slice (some ad153) l0_0.length c0_0)] 29 (0, 0))) ∧ Aside0 (Below w.heap.size w wc))
 case first =>
  skip
  {
 have H := HC4.out
 clear HC4
 replace H := Option.bind_eq_some_iff.mp H
 obtain ⟨t154, A60, H⟩ := H
 replace H : (if t154 = true then (if x3_1 > 0 then (if 0 ≤ (wrap64 (x3_1 - 1)) then (if (wrap64 (x3_1 - 1)) < (l0_0.length : Int) then (spec_l08Is.j1 k1 x3_1 l0_0 (!(Op.bytesLess (((rd_T63 l0_0 (wrap64 (x3_1 - 1))).f0).toList) (((rd_T63 l0_0 x3_1).f0).toList))) l0_0) else (none)) else (none)) else (spec_l08Is.j1 k1 x3_1 l0_0 false l0_0)) else (spec_l08Is.j1 k1 x3_1 l0_0 true l0_0)) = some r := H
 have A6 := A_ A60
 clear A60
 by_cases c7 : t154 = true
 {
 subst c7
 have H1 : (if x3_1 > 0 then (if 0 ≤ (wrap64 (x3_1 - 1)) then (if (wrap64 (x3_1 - 1)) < (l0_0.length : Int) then (spec_l08Is.j1 k1 x3_1 l0_0 (!(Op.bytesLess (((rd_T63 l0_0 (wrap64 (x3_1 - 1))).f0).toList) (((rd_T63 l0_0 x3_1).f0).toList))) l0_0) else (none)) else (none)) else (spec_l08Is.j1 k1 x3_1 l0_0 false l0_0)) = some r := by rw [if_pos rfl] at H; exact H
 clear H
 have H := H1
 clear H1
 by_cases c8 : x3_1 > 0
 {
 rw [if_pos c8] at H
 have c8b0 : decide (0 < x3_1) = true := decide_eq_true c8
 clear c8
 (first | rw [c8b0] | (simp only [i64_w, i32_w]; rw [c8b0]) | skip)
 obtain ⟨ji9, hji9⟩ : ∃ j_ : Int, (wrap64 (x3_1 - 1)) = j_ := ⟨_, rfl⟩
 replace H : (if 0 ≤ (ji9) then (if (ji9) < (l0_0.length : Int) then (spec_l08Is.j1 k1 x3_1 l0_0 (!(Op.bytesLess (((rd_T63 l0_0 (ji9)).f0).toList) (((rd_T63 l0_0 x3_1).f0).toList))) l0_0) else (none)) else (none)) = some r := by first | (rw [hji9] at H; exact H) | (simp only [hji9] at H ⊢; exact H)
 (try rw [hji9] at A6)
 have hji9w : (IntKind.i64.wrap (x3_1 - 1)) = ji9 := (i64_w _).trans hji9
 by_cases c10 : 0 ≤ (ji9)
 {
 rw [if_pos c10] at H
 have c10b0 : decide (0 ≤ (ji9)) = true := decide_eq_true c10
 clear c10
 by_cases c11 : (ji9) < (l0_0.length : Int)
 {
 rw [if_pos c11] at H
 have c11b0 : decide ((ji9) < (l0_0.length : Int)) = true := decide_eq_true c11
 clear c11
 have H' := A_ H
 clear H
 have hcz12_0 := c1_ BK0 0 (.slice (some ad153) l0_0.length c0_0)
 have hfz12_0 := blk_frozen BK0.out 0
 have p155 : 0 ≤ ((ji9) : Int) := o1_
 have q155 : (ji9) < (l0_0.length : Int) := o1_
 obtain ⟨ad155, A155_1, c155_1, e155, hx155_0, hx155_1, hl155_1, hi155_1⟩ := at_T63 HR0_0.out (ji9) p155 q155
 obtain rfl : ad153 = ad155 := (by injection e155)
 replace hx155_0 := (HB.out.cell (World.block_lt_of_cell? w _ hx155_0)).trans hx155_0
 replace hx155_1 := (HB.out.cell (World.block_lt_of_cell? w _ hx155_1)).trans hx155_1
 have HR155_1 := A_ hi155_1
 have HC155_1 := A_ hl155_1
 clear hi155_1 hl155_1
 replace p155 := eq_true p155
 replace q155 := eq_true q155
 go_wp2_with (first | (go_at_call 74; (with_reducible refine (spec_l08Word.calls k1 ((rd_T63 l0_0 x3_1).f0) true _ A6.out).mono ?_); rintro e w' ⟨rfl, ⟨nd, rfl⟩⟩; (try exact d1_)))
 repeat (go_quiet (first | (go_at_call 74; (with_reducible refine (spec_l08Word.calls k1 ((rd_T63 l0_0 x3_1).f0) true _ A6.out).mono ?_); rintro e w' ⟨rfl, ⟨nd, rfl⟩⟩; (try exact d1_))); try go_wp2_with (first | (go_at_call 74; (with_reducible refine (spec_l08Word.calls k1 ((rd_T63 l0_0 x3_1).f0) true _ A6.out).mono ?_); rintro e w' ⟨rfl, ⟨nd, rfl⟩⟩; (try exact d1_))))
 go_meet
 case rel => exact ⟨_, (!(Op.bytesLess (((rd_T63 l0_0 (ji9)).f0).toList) (((rd_T63 l0_0 x3_1).f0).toList))), (by first | rfl | (simp; done) | (simp only [← hji9] <;> (first | rfl | simp)) | (simp [*]; done)), H', ⟨by have := HK1.out; first | omega | exact Nat.le_refl _⟩, ⟨b1_ BK0.out⟩, ⟨y1_ HB.out⟩⟩}
 {
 rw [if_neg c11] at H
 exact absurd H (by simp)}}
 {
 rw [if_neg c10] at H
 exact absurd H (by simp)}}
 {
 rw [if_neg c8] at H
 have c8b0 : decide (0 < x3_1) = false := decide_eq_false c8
 clear c8
 (first | rw [c8b0] | (simp only [i64_w, i32_w]; rw [c8b0]) | skip)
 have H' := A_ H
 clear H
 go_wp2_with (first | (go_at_call 74; (with_reducible refine (spec_l08Word.calls k1 ((rd_T63 l0_0 x3_1).f0) true _ A6.out).mono ?_); rintro e w' ⟨rfl, ⟨nd, rfl⟩⟩; (try exact d1_)))
 repeat (go_quiet (first | (go_at_call 74; (with_reducible refine (spec_l08Word.calls k1 ((rd_T63 l0_0 x3_1).f0) true _ A6.out).mono ?_); rintro e w' ⟨rfl, ⟨nd, rfl⟩⟩; (try exact d1_))); try go_wp2_with (first | (go_at_call 74; (with_reducible refine (spec_l08Word.calls k1 ((rd_T63 l0_0 x3_1).f0) true _ A6.out).mono ?_); rintro e w' ⟨rfl, ⟨nd, rfl⟩⟩; (try exact d1_))))
 go_meet
 case rel => exact ⟨_, (false), s1_, H', ⟨by have := HK1.out; first | omega | exact Nat.le_refl _⟩, ⟨b1_ BK0.out⟩, ⟨y1_ HB.out⟩⟩}}
 {
 replace c7 := Bool.eq_false_iff.mpr c7
 subst c7
 have H1 : (spec_l08Is.j1 k1 x3_1 l0_0 true l0_0) = some r := by rw [if_neg (show ¬ (false = true) by decide)] at H; exact H
 clear H
 have H := H1
 clear H1
 have H' := A_ H
 clear H
 go_wp2_with (first | (go_at_call 74; (with_reducible refine (spec_l08Word.calls k1 ((rd_T63 l0_0 x3_1).f0) false _ A6.out).mono ?_); rintro e w' ⟨rfl, ⟨nd, rfl⟩⟩; (try exact d1_)))
 repeat (go_quiet (first | (go_at_call 74; (with_reducible refine (spec_l08Word.calls k1 ((rd_T63 l0_0 x3_1).f0) false _ A6.out).mono ?_); rintro e w' ⟨rfl, ⟨nd, rfl⟩⟩; (try exact d1_))); try go_wp2_with (first | (go_at_call 74; (with_reducible refine (spec_l08Word.calls k1 ((rd_T63 l0_0 x3_1).f0) false _ A6.out).mono ?_); rintro e w' ⟨rfl, ⟨nd, rfl⟩⟩; (try exact d1_))))
 go_meet
 case rel => exact ⟨_, (true), s1_, H', ⟨by have := HK1.out; first | omega | exact Nat.le_refl _⟩, ⟨b1_ BK0.out⟩, ⟨y1_ HB.out⟩⟩}}
 case rest =>
  skip
  {
 clear HC4
 try clear c1
 try clear p1
 try clear q1
 try clear hx1
 try clear c2
 try clear c2b0
 try clear p2
 try clear c3
 try clear c3b0
 try clear c5
 try clear p6
 try clear c7
 try clear c8
 try clear c8b0
 try clear c10
 try clear c10b0
 try clear c11
 try clear c11b0
 try clear hcz12_0
 try clear hcz5_0
 try clear hfz12_0
 try clear hfz5_0
 try clear hx153_0
 try clear hx153_1
 try clear hx155_0
 try clear hx155_1
 try clear p153
 try clear p155
 try clear q153
 try clear q155
 obtain ⟨kq, x45_3, rfl, HA, HJ3, BK0, HB⟩ := hcut
 cases kq with
 | zero => exact absurd HA.out (by simp [spec_l08Is.j1])
 | succ kj3 =>
  skip
  {
 have H := HA.out
 clear HA
 simp only [spec_l08Is.j1] at H
 by_cases c13 : x45_3 = true
 {
 subst c13
 have H1 : (some false) = some r := by rw [if_pos rfl] at H; exact H
 clear H
 have H := H1
 clear H1
 obtain rfl := Option.some.inj H
 go_wp2
 repeat (go_quiet (fail); try go_wp2)
 go_ret
 exact ⟨e1_, y1_ HB.out⟩}
 {
 replace c13 := Bool.eq_false_iff.mpr c13
 subst c13
 have H1 : (if (((rd_T63 l0_0 x3_1).f1).length : Int) < 1 then (some false) else (if (((rd_T63 l0_0 x3_1).f1).length : Int) > 40 then (some false) else ((spec_l00Rises.f kj3 ((rd_T63 l0_0 x3_1).f1) 1 1000000000).bind fun t157 => (if t157 = true then (spec_l08Is.l0 kj3 (wrap64 (x3_1 + 1)) l0_0) else (some false))))) = some r := by rw [if_neg (show ¬ (false = true) by decide)] at H; exact H
 clear H
 have H := H1
 clear H1
 by_cases c14 : (((rd_T63 l0_0 x3_1).f1).length : Int) < 1
 {
 rw [if_pos c14] at H
 have c14b0 : decide ((((rd_T63 l0_0 x3_1).f1).length : Int) < 1) = true := decide_eq_true c14
 have c14b1 : decide (((rd_T63 l0_0 x3_1).f1).length < 1) = true := decide_eq_true (by omega)
 clear c14
 obtain rfl := Option.some.inj H
 have p156 : 0 ≤ (x3_1 : Int) := (by first | exact o1_ | exact hbd153.out.1)
 have q156 : x3_1 < (l0_0.length : Int) := (by first | exact o1_ | exact hbd153.out.2)
 obtain ⟨ad156, A156_1, c156_1, e156, hx156_0, hx156_1, hl156_1, hi156_1⟩ := at_T63 HR0_0.out x3_1 p156 q156
 obtain rfl : ad153 = ad156 := (by injection e156)
 replace hx156_0 := (HB.out.cell (World.block_lt_of_cell? w _ hx156_0)).trans hx156_0
 replace hx156_1 := (HB.out.cell (World.block_lt_of_cell? w _ hx156_1)).trans hx156_1
 have HR156_1 := A_ hi156_1
 have HC156_1 := A_ hl156_1
 clear hi156_1 hl156_1
 replace p156 := eq_true p156
 replace q156 := eq_true q156
 go_wp2
 repeat (go_quiet (fail); try go_wp2)
 go_ret
 exact ⟨e1_, y1_ HB.out⟩}
 {
 rw [if_neg c14] at H
 have c14b0 : decide ((((rd_T63 l0_0 x3_1).f1).length : Int) < 1) = false := decide_eq_false c14
 have c14b1 : decide (((rd_T63 l0_0 x3_1).f1).length < 1) = false := decide_eq_false (by omega)
 clear c14
 by_cases c15 : (((rd_T63 l0_0 x3_1).f1).length : Int) > 40
 {
 rw [if_pos c15] at H
 have c15b0 : decide (40 < (((rd_T63 l0_0 x3_1).f1).length : Int)) = true := decide_eq_true c15
 have c15b1 : decide (40 < ((rd_T63 l0_0 x3_1).f1).length) = true := decide_eq_true (by omega)
 clear c15
 obtain rfl := Option.some.inj H
 have p156 : 0 ≤ (x3_1 : Int) := (by first | exact o1_ | exact hbd153.out.1)
 have q156 : x3_1 < (l0_0.length : Int) := (by first | exact o1_ | exact hbd153.out.2)
 obtain ⟨ad156, A156_1, c156_1, e156, hx156_0, hx156_1, hl156_1, hi156_1⟩ := at_T63 HR0_0.out x3_1 p156 q156
 obtain rfl : ad153 = ad156 := (by injection e156)
 replace hx156_0 := (HB.out.cell (World.block_lt_of_cell? w _ hx156_0)).trans hx156_0
 replace hx156_1 := (HB.out.cell (World.block_lt_of_cell? w _ hx156_1)).trans hx156_1
 have HR156_1 := A_ hi156_1
 have HC156_1 := A_ hl156_1
 clear hi156_1 hl156_1
 replace p156 := eq_true p156
 replace q156 := eq_true q156
 go_wp2
 repeat (go_quiet (fail); try go_wp2)
 go_ret
 exact ⟨e1_, y1_ HB.out⟩}
 {
 rw [if_neg c15] at H
 have c15b0 : decide (40 < (((rd_T63 l0_0 x3_1).f1).length : Int)) = false := decide_eq_false c15
 have c15b1 : decide (40 < ((rd_T63 l0_0 x3_1).f1).length) = false := decide_eq_false (by omega)
 clear c15
 replace H := Option.bind_eq_some_iff.mp H
 obtain ⟨t157, A160, H⟩ := H
 replace H : (if t157 = true then (spec_l08Is.l0 kj3 (wrap64 (x3_1 + 1)) l0_0) else (some false)) = some r := H
 have A16 := A_ A160
 clear A160
 by_cases c17 : t157 = true
 {
 subst c17
 have H1 : (spec_l08Is.l0 kj3 (wrap64 (x3_1 + 1)) l0_0) = some r := by rw [if_pos rfl] at H; exact H
 clear H
 have H := H1
 clear H1
 have H' := A_ H
 clear H
 have p156 : 0 ≤ (x3_1 : Int) := (by first | exact o1_ | exact hbd153.out.1)
 have q156 : x3_1 < (l0_0.length : Int) := (by first | exact o1_ | exact hbd153.out.2)
 obtain ⟨ad156, A156_1, c156_1, e156, hx156_0, hx156_1, hl156_1, hi156_1⟩ := at_T63 HR0_0.out x3_1 p156 q156
 obtain rfl : ad153 = ad156 := (by injection e156)
 replace hx156_0 := (HB.out.cell (World.block_lt_of_cell? w _ hx156_0)).trans hx156_0
 replace hx156_1 := (HB.out.cell (World.block_lt_of_cell? w _ hx156_1)).trans hx156_1
 have HR156_1 := A_ hi156_1
 have HC156_1 := A_ hl156_1
 clear hi156_1 hl156_1
 replace p156 := eq_true p156
 replace q156 := eq_true q156
 go_wp2_with (first | (go_at_call 90; (with_reducible refine (spec_l00Rises.calls kj3 _ _ ((rd_T63 l0_0 x3_1).f1) 1 1000000000 true _ ?side1 ?side2 A16.out).mono ?_); (case side1 => exact y2_ (Kd.C_below HR156_1.out HB.out)); (case side2 => exact HC156_1.out); rintro e w' ⟨rfl, ⟨nd, rfl⟩⟩; (try exact d1_)))
 repeat (go_quiet (first | (go_at_call 90; (with_reducible refine (spec_l00Rises.calls kj3 _ _ ((rd_T63 l0_0 x3_1).f1) 1 1000000000 true _ ?side1 ?side2 A16.out).mono ?_); (case side1 => exact y2_ (Kd.C_below HR156_1.out HB.out)); (case side2 => exact HC156_1.out); rintro e w' ⟨rfl, ⟨nd, rfl⟩⟩; (try exact d1_))); try go_wp2_with (first | (go_at_call 90; (with_reducible refine (spec_l00Rises.calls kj3 _ _ ((rd_T63 l0_0 x3_1).f1) 1 1000000000 true _ ?side1 ?side2 A16.out).mono ?_); (case side1 => exact y2_ (Kd.C_below HR156_1.out HB.out)); (case side2 => exact HC156_1.out); rintro e w' ⟨rfl, ⟨nd, rfl⟩⟩; (try exact d1_))))
 go_roundg kj3
 case measure => have := HK1.out; have := HJ3.out; omega
 case rel => exact ⟨(wrap64 (x3_1 + 1)), s1_, H', ⟨by have := HK1.out; have := HJ3.out; omega⟩, ⟨b1_ BK0.out⟩, ⟨y1_ HB.out⟩⟩}
 {
 replace c17 := Bool.eq_false_iff.mpr c17
 subst c17
 have H1 : (some false) = some r := by rw [if_neg (show ¬ (false = true) by decide)] at H; exact H
 clear H
 have H := H1
 clear H1
 obtain rfl := Option.some.inj H
 have p156 : 0 ≤ (x3_1 : Int) := (by first | exact o1_ | exact hbd153.out.1)
 have q156 : x3_1 < (l0_0.length : Int) := (by first | exact o1_ | exact hbd153.out.2)
 obtain ⟨ad156, A156_1, c156_1, e156, hx156_0, hx156_1, hl156_1, hi156_1⟩ := at_T63 HR0_0.out x3_1 p156 q156
 obtain rfl : ad153 = ad156 := (by injection e156)
 replace hx156_0 := (HB.out.cell (World.block_lt_of_cell? w _ hx156_0)).trans hx156_0
 replace hx156_1 := (HB.out.cell (World.block_lt_of_cell? w _ hx156_1)).trans hx156_1
 have HR156_1 := A_ hi156_1
 have HC156_1 := A_ hl156_1
 clear hi156_1 hl156_1
 replace p156 := eq_true p156
 replace q156 := eq_true q156
 go_wp2_with (first | (go_at_call 90; (with_reducible refine (spec_l00Rises.calls kj3 _ _ ((rd_T63 l0_0 x3_1).f1) 1 1000000000 false _ ?side1 ?side2 A16.out).mono ?_); (case side1 => exact y2_ (Kd.C_below HR156_1.out HB.out)); (case side2 => exact HC156_1.out); rintro e w' ⟨rfl, ⟨nd, rfl⟩⟩; (try exact d1_)))
 repeat (go_quiet (first | (go_at_call 90; (with_reducible refine (spec_l00Rises.calls kj3 _ _ ((rd_T63 l0_0 x3_1).f1) 1 1000000000 false _ ?side1 ?side2 A16.out).mono ?_); (case side1 => exact y2_ (Kd.C_below HR156_1.out HB.out)); (case side2 => exact HC156_1.out); rintro e w' ⟨rfl, ⟨nd, rfl⟩⟩; (try exact d1_))); try go_wp2_with (first | (go_at_call 90; (with_reducible refine (spec_l00Rises.calls kj3 _ _ ((rd_T63 l0_0 x3_1).f1) 1 1000000000 false _ ?side1 ?side2 A16.out).mono ?_); (case side1 => exact y2_ (Kd.C_below HR156_1.out HB.out)); (case side2 => exact HC156_1.out); rintro e w' ⟨rfl, ⟨nd, rfl⟩⟩; (try exact d1_))))
 go_ret
 exact ⟨e1_, y1_ HB.out⟩}}}}}}}
 {
 rw [if_neg c3] at H
 exact absurd H (by simp)}}
 {
 rw [if_neg c2] at H
 have c2b0 : decide (x3_1 < (l0_0.length : Int)) = false := decide_eq_false c2
 clear c2
 obtain rfl := Option.some.inj H
 have hcz18_0 := c1_ BK0 0 (.slice A0_0 l0_0.length c0_0)
 have hfz18_0 := blk_frozen BK0.out 0
 go_wp2
 repeat (go_quiet (fail); try go_wp2)
 go_ret
 exact ⟨e1_, y1_ HB.out⟩}}}

end Go.Proofs.Ytcnhepjdibbkgaa.QFnExactDropFrom
